/- Texts of two bytes a sign: units, pairs, and the reference's scan over them, in plain words. Condition: the text is of at most 100000 bytes. -/
import Derived.Test.YthecjfkafpndoaaRefEnc
import Derived.Test.YthecjfkafpndoaaXCh7
namespace Go.Proofs.Ythecjfkafpndoaa.L
open Go Go.RowKit Go.Proofs.YthecjfkafpndoaaW.PrintWords Go.Proofs.YthecjfkafpndoaaW.PrintLast Go.Proofs.YthecjfkafpndoaaW.PrintMore Go.Proofs.Ythecjfkafpndoaa.XCh Go.Proofs.Ythecjfkafpndoaa.Sg Go.Proofs.Ythecjfkafpndoaa.Ch

theorem or8 (a b : Int) (ha : 0 ≤ a ∧ a ≤ 255) (hb : 0 ≤ b ∧ b ≤ 255) : Go.bits .or .i32 (wrap32 ((wrap32 a) * 256)) (wrap32 b) = 256 * a + b := by
  have e1 : wrap32 a = a := by unfold wrap32; omega
  have e2 : wrap32 b = b := by unfold wrap32; omega
  have e3 : wrap32 (a * 256) = a * 256 := by unfold wrap32; omega
  rw [e1, e2, e3]
  clear e1 e2 e3
  rw [bits_join .i32 31 (by decide) wraps_i32 8 (a * 256) b (by omega) (by show a * 256 % 256 = 0; omega) (by omega) hb.1 (by omega) (by omega), Int.mul_comm]
theorem and10 (a : Int) (h0 : 0 ≤ a) (h1 : a ≤ 65535) : Go.bits .and .i32 a 1023 = a % 1024 := bits_mask .i32 31 (by decide) wraps_i32 10 (by decide) a h0 (by omega)

/-- Two bytes each. -/
def us (h : Int) : List Int → List Int
  | a :: b :: t => (if h = 0 then 256 * a + b else 256 * b + a) :: us h t
  | _ => []
/-- Two halves are one sign. -/
def pr : List Int → List Int
  | [] => []
  | [a] => [a]
  | a :: b :: t => if a / 1024 = 54 ∧ b / 1024 = 55 then (65536 + a % 1024 * 1024 + b % 1024) :: pr t else a :: pr (b :: t)
def tailO (n : Nat) : List Int := if n % 2 = 1 then [65533] else []
def fix (x : Int) : Int := if 55296 ≤ x ∧ x ≤ 57343 then 65533 else x
/-- The reference's scan. -/
def rfu : List Int → Int → List Int → List Int
  | out, _, [] => out
  | out, h, x :: t => if h ≥ 0 ∧ 56320 ≤ x ∧ x ≤ 57343 then rfu (out.set (out.length - 1) (65536 + 1024 * (h - 55296) + x - 56320)) (-1) t
    else rfu (out ++ [fix x]) (if 55296 ≤ x ∧ x ≤ 56319 then x else -1) t

theorem pr_cons_ne (a : Int) (t : List Int) (h : ¬ a / 1024 = 54) : pr (a :: t) = a :: pr t := by
  cases t with
  | nil => rfl
  | cons b t => rw [pr, if_neg (fun e => h e.1)]
theorem pr_cons_ne2 (a b : Int) (t : List Int) (h : ¬ b / 1024 = 55) : pr (a :: b :: t) = a :: pr (b :: t) := by
  rw [pr, if_neg (fun e => h e.2)]

theorem set_last (out : List Int) (y v : Int) : (out ++ [y]).set ((out ++ [y]).length - 1) v = out ++ [v] := by
  simp

theorem rfu_pr : ∀ (u : List Int), (∀ x ∈ u, 0 ≤ x ∧ x ≤ 65535) → (∀ out, rfu out (-1) u = out ++ (pr u).map fix) ∧ (∀ out h, h / 1024 = 54 → rfu (out ++ [65533]) h u = out ++ (pr (h :: u)).map fix)
  | [], _ => by
    refine ⟨fun out => by simp [rfu, pr], fun out h hh => ?_⟩
    have : fix h = 65533 := by unfold fix; rw [if_pos (by omega)]
    simp [rfu, pr, this]
  | x :: t, hr => by
    obtain ⟨IA, IB⟩ := rfu_pr t (fun y hy => hr y (by simp [hy]))
    have hx := hr x (by simp)
    -- the plain step
    have plain : ∀ out, rfu (out ++ [fix x]) (if 55296 ≤ x ∧ x ≤ 56319 then x else -1) t = out ++ (pr (x :: t)).map fix := by
      intro out
      by_cases c : x / 1024 = 54
      · rw [if_pos (by omega)]
        have e : fix x = 65533 := by unfold fix; rw [if_pos (by omega)]
        rw [e]
        exact IB out x c
      · rw [if_neg (by omega), IA, pr_cons_ne x t c]
        simp
    refine ⟨fun out => ?_, fun out h hh => ?_⟩
    · rw [rfu, if_neg (by omega)]
      exact plain out
    · rw [rfu]
      by_cases c : x / 1024 = 55
      · rw [if_pos (by omega), set_last, IA, pr, if_pos ⟨hh, c⟩]
        have e : fix (65536 + h % 1024 * 1024 + x % 1024) = 65536 + 1024 * (h - 55296) + x - 56320 := by
          unfold fix
          rw [if_neg (by omega)]
          omega
        rw [List.map_cons, e, List.append_assoc]
        rfl
      · rw [if_neg (by omega), plain, pr_cons_ne2 h x t c]
        have e : fix h = 65533 := by unfold fix; rw [if_pos (by omega)]
        rw [List.map_cons, e, List.append_assoc]
        rfl

theorem enc_fix (x : Int) : Lib.encodeRune (fix x) = Lib.encodeRune x := by
  unfold fix
  split
  · rename_i h
    unfold Lib.encodeRune
    rw [Lib.encodeRuneZ_bad (.inr (.inl h))]
    rfl
  · rfl
theorem bytes_fix (l : List Int) : bytesOfSigns (l.map fix) = bytesOfSigns l := by
  unfold bytesOfSigns
  rw [List.flatMap_map]
  congr 1
  funext x
  exact enc_fix x
theorem bytes_append (a b : List Int) : bytesOfSigns (a ++ b) = bytesOfSigns a ++ bytesOfSigns b := by simp [bytesOfSigns]

theorem us_range (h : Int) : ∀ l : List Int, isBytes l → ∀ x ∈ us h l, 0 ≤ x ∧ x ≤ 65535
  | [], _, x, hx => by simp [us] at hx
  | [_], _, x, hx => by simp [us] at hx
  | a :: b :: t, hb, x, hx => by
    have h1 := hb a (by simp)
    have h2 := hb b (by simp)
    rw [us] at hx
    rcases List.mem_cons.1 hx with rfl | hx
    · split <;> omega
    · exact us_range h t (fun y hy => hb y (by simp [hy])) x hx
theorem us_len (h : Int) : ∀ l : List Int, (us h l).length ≤ l.length
  | [] => Nat.le_refl _
  | [_] => Nat.zero_le _
  | a :: b :: t => by
    have := us_len h t
    simp only [us, List.length_cons]
    omega
theorem pr_mem : ∀ l : List Int, (∀ x ∈ l, 0 ≤ x ∧ x ≤ 65535) → ∀ x ∈ pr l, 0 ≤ x ∧ x ≤ 1114111
  | [], _, x, hx => by simp [pr] at hx
  | [a], h, x, hx => by
    have := h a (by simp)
    have e : x = a := by simpa [pr] using hx
    omega
  | a :: b :: t, h, x, hx => by
    have ha := h a (by simp)
    rw [pr] at hx
    split at hx
    · rcases List.mem_cons.1 hx with rfl | hx
      · omega
      · exact pr_mem t (fun y hy => h y (by simp [hy])) x hx
    · rcases List.mem_cons.1 hx with rfl | hx
      · omega
      · exact pr_mem (b :: t) (fun y hy => h y (by simp only [List.mem_cons] at hy ⊢; exact .inr hy)) x hx
theorem pr_len : ∀ l : List Int, (pr l).length ≤ l.length
  | [] => Nat.le_refl _
  | [_] => Nat.le_refl _
  | a :: b :: t => by
    rw [pr]
    split
    · have := pr_len t
      simp only [List.length_cons]
      omega
    · have := pr_len (b :: t)
      simp only [List.length_cons] at this ⊢
      omega

theorem two (s : ByteArray) (i : Nat) (h : i + 1 < s.size) : (bytesOf s).drop i = bt s (i : Int) :: bt s ((i + 1 : Nat) : Int) :: (bytesOf s).drop (i + 2) := by
  rw [bt_bytes s i (by omega), bt_bytes s (i + 1) h]
theorem us_short (s : ByteArray) (h : Int) (i : Nat) (hi : ¬ i + 1 < s.size) : us h ((bytesOf s).drop i) = [] := by
  have e : ((bytesOf s).drop i).length = s.size - i := by rw [List.length_drop, bytes_length]
  match hm : (bytesOf s).drop i, e with
  | [], _ => rfl
  | [_], _ => rfl
  | a :: b :: t, e => simp only [List.length_cons] at e; omega

theorem units_l (s : ByteArray) (hs : s.size ≤ 100000) (h : Int) (hh : h = 0 ∨ h = 1) (d : Nat) : ∀ (i : Nat) (x5 : List Int), s.size - i ≤ d → i ≤ s.size → x5.length ≤ i → ∀ k, d + 1 < k →
    chars_units.l0 k s h x5 (i : Int) = some (x5 ++ us h ((bytesOf s).drop i)) := by
  induction d with
  | zero =>
    intro i x5 hd hi hx k hk
    obtain ⟨k, rfl⟩ : ∃ q, k = q + 1 := ⟨k - 1, by omega⟩
    rw [chars_units.l0, wrap_i i (by omega), if_neg (by omega), us_short s h i (by omega), List.append_nil]
  | succ d ih =>
    intro i x5 hd hi hx k hk
    obtain ⟨k, rfl⟩ : ∃ q, k = q + 1 := ⟨k - 1, by omega⟩
    rw [chars_units.l0, wrap_i i (by omega)]
    by_cases c : i + 1 < s.size
    · have w2 : wrap64 ((i : Int) + 2) = ((i + 2 : Nat) : Int) := by unfold wrap64; omega
      rw [if_pos (by omega), two s i c, us, w2]
      have r1 := bt_range s (i : Int)
      have r2 := bt_range s ((i + 1 : Nat) : Int)
      have IH := fun y => ih (i + 2) (x5 ++ [y]) (by omega) (by omega) (by simp only [List.length_append, List.length_cons, List.length_nil]; omega) k (by omega)
      clear ih w2
      rcases hh with rfl | rfl
      · have w3 : wrap64 ((i : Int) + 0) = (i : Int) := by unfold wrap64; omega
        have w4 : wrap64 (((i + 1 : Nat) : Int) - 0) = ((i + 1 : Nat) : Int) := by unfold wrap64; omega
        rw [w3, w4, if_pos (by omega), if_pos (by omega), if_pos (by omega), if_pos (by omega), if_pos (by omega), or8 _ _ r1 r2, IH, if_pos rfl, List.append_assoc]
        rfl
      · have w3 : wrap64 ((i : Int) + 1) = ((i + 1 : Nat) : Int) := wrap_i i (by omega)
        have w4 : wrap64 (((i + 1 : Nat) : Int) - 1) = (i : Int) := by unfold wrap64; omega
        rw [w3, w4, if_pos (by omega), if_pos (by omega), if_pos (by omega), if_pos (by omega), if_pos (by omega), or8 _ _ r2 r1, IH, if_neg (by decide), List.append_assoc]
        rfl
    · rw [if_neg (by omega), us_short s h i c, List.append_nil]

theorem pair_val (a b : Int) (ha : 0 ≤ a ∧ a ≤ 65535) (hb : 0 ≤ b ∧ b ≤ 65535) : wrap32 ((wrap32 (65536 + (wrap32 ((Go.bits .and .i32 a 1023) * 1024)))) + (Go.bits .and .i32 b 1023)) = 65536 + a % 1024 * 1024 + b % 1024 := by
  rw [and10 a ha.1 ha.2, and10 b hb.1 hb.2]
  have e1 : wrap32 (a % 1024 * 1024) = a % 1024 * 1024 := by unfold wrap32; omega
  rw [e1]
  clear e1
  have e2 : wrap32 (65536 + a % 1024 * 1024) = 65536 + a % 1024 * 1024 := by unfold wrap32; omega
  rw [e2]
  clear e2
  unfold wrap32
  omega

theorem paired_l (l : List Int) (hl : l.length ≤ 100000) (hr : ∀ x ∈ l, 0 ≤ x ∧ x ≤ 65535) (d : Nat) : ∀ (i : Nat) (x3 : List Int), l.length - i ≤ d → i ≤ l.length → x3.length ≤ i → ∀ k, d + 1 < k →
    chars_paired.l0 k l x3 (i : Int) = some (x3 ++ pr (l.drop i)) := by
  induction d with
  | zero =>
    intro i x3 hd hi hx k hk
    obtain ⟨k, rfl⟩ : ∃ q, k = q + 1 := ⟨k - 1, by omega⟩
    rw [chars_paired.l0, if_neg (by omega), List.drop_eq_nil_of_le (by omega)]
    simp [pr]
  | succ d ih =>
    intro i x3 hd hi hx k hk
    obtain ⟨k, rfl⟩ : ∃ q, k = q + 1 := ⟨k - 1, by omega⟩
    rw [chars_paired.l0]
    by_cases c : i < l.length
    · rw [if_pos (by omega), wrap_i i (by omega)]
      have ra := hr l[i] (List.getElem_mem c)
      have IH1 := fun y => ih (i + 1) (x3 ++ [y]) (by omega) (by omega) (by simp only [List.length_append, List.length_cons, List.length_nil]; omega) k (by omega)
      rw [List.drop_eq_getElem_cons c, rd_int l i c]
      by_cases c2 : i + 1 < l.length
      · rw [if_pos (by omega), if_pos (by omega), rd_int l (i + 1) c2]
        have rb := hr l[i + 1] (List.getElem_mem c2)
        have hd2 := List.drop_eq_getElem_cons c2
        rw [wrap_i (i + 1) (by omega)]
        by_cases e1 : l[i] / 1024 = 54
        · rw [if_pos e1, if_pos (by omega)]
          by_cases e2 : l[i + 1] / 1024 = 55
          · rw [if_pos e2, if_pos (by omega), pair_val _ _ ra rb, hd2, pr, if_pos ⟨e1, e2⟩]
            rw [ih (i + 1 + 1) (x3 ++ [65536 + l[i] % 1024 * 1024 + l[i + 1] % 1024]) (by omega) (by omega) (by simp only [List.length_append, List.length_cons, List.length_nil]; omega) k (by omega), List.append_assoc]
            rfl
          · rw [if_neg e2, if_pos (by omega), IH1, hd2, pr_cons_ne2 _ _ _ e2, List.append_assoc]
            rfl
        · rw [if_neg e1, if_pos (by omega), IH1, pr_cons_ne _ _ e1, List.append_assoc]
          rfl
      · rw [if_neg (by omega), if_pos (by omega), if_pos (by omega), IH1, List.drop_eq_nil_of_le (by omega)]
        simp [pr]
    · rw [if_neg (by omega), List.drop_eq_nil_of_le (by omega)]
      simp [pr]
end Go.Proofs.Ythecjfkafpndoaa.L
