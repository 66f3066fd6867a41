/- strings.ReplaceAll in plain words, and what four of them make of a text. No condition. -/
import Derived.Lib.ReplaceLaws
import Derived.Lib.CountLaws
namespace Go.Proofs.YtjlgbakdnenjhaaDoor.Rp
open Go Go.Lib

def RA (old new l : List UInt8) : List UInt8 := replaceK old new (count l old) l

theorem ra_of (s old new : List UInt8) (h : (old == new) = false) : replaceAll s old new = RA old new s := by
  unfold replaceAll replace replaceNum RA
  rw [if_neg (by rw [h]; exact Bool.false_ne_true), if_pos (by omega)]

theorem ra_nil (old new : List UInt8) (h : old ≠ []) : RA old new [] = [] := by
  have e : index [] old = -1 := by
    cases old with
    | nil => exact absurd rfl h
    | cons a t => rfl
  unfold RA
  rw [count_miss e]
  rfl

theorem ra_hit (old new l : List UInt8) (h : old ≠ []) (hp : old.isPrefixOf l = true) : RA old new l = new ++ RA old new (l.drop old.length) := by
  have hi : index l old = ((0 : Nat) : Int) := by
    cases l with
    | nil => cases old with
      | nil => exact absurd rfl h
      | cons a t => simp at hp
    | cons b t => rw [index, if_pos hp]; rfl
  unfold RA
  rw [count_hit h hi, Nat.add_comm 1, replaceK_hit old new _ l 0 hi]
  simp

theorem ra_miss (old new : List UInt8) (c : UInt8) (t : List UInt8) (h : old ≠ []) (hp : old.isPrefixOf (c :: t) = false) : RA old new (c :: t) = c :: RA old new t := by
  have e : index (c :: t) old = if index t old == -1 then -1 else index t old + 1 := by
    rw [index, if_neg (by rw [hp]; exact Bool.false_ne_true)]
  by_cases hm : index t old = -1
  · have e2 : index (c :: t) old = -1 := by rw [e, hm]; rfl
    unfold RA
    rw [count_miss hm, count_miss e2]
    rfl
  · have hge := index_ge t old
    obtain ⟨i, hi⟩ : ∃ i : Nat, index t old = i := ⟨(index t old).toNat, by omega⟩
    have e2 : index (c :: t) old = ((i + 1 : Nat) : Int) := by
      rw [e, if_neg (by simpa using hm), hi]
      simp
    unfold RA
    rw [count_hit h hi, count_hit h e2, Nat.add_comm 1, Nat.add_comm 1, replaceK_hit old new _ t i hi, replaceK_hit old new _ (c :: t) (i + 1) e2]
    have e3 : (c :: t).drop (i + 1 + old.length) = t.drop (i + old.length) := by
      rw [show i + 1 + old.length = (i + old.length) + 1 by omega, List.drop_succ_cons]
    rw [e3, List.take_succ_cons]
    rfl

theorem ra_skip (o : UInt8) (os new : List UInt8) : ∀ (x y : List UInt8), (∀ b ∈ x, b ≠ o) → RA (o :: os) new (x ++ y) = x ++ RA (o :: os) new y
  | [], y, _ => rfl
  | b :: x, y, h => by
    have hb : b ≠ o := h b (by simp)
    rw [List.cons_append, ra_miss _ _ _ _ (by simp) (by simp [List.isPrefixOf]; intro e; exact absurd e.symm hb), ra_skip o os new x y (fun b hb => h b (by simp [hb]))]
    rfl

theorem ra_one (c : UInt8) (new t : List UInt8) : RA [c] new (c :: t) = new ++ RA [c] new t := by
  rw [ra_hit _ _ _ (by simp) (by simp [List.isPrefixOf])]
  rfl
theorem ra_not (c b : UInt8) (new t : List UInt8) (h : b ≠ c) : RA [c] new (b :: t) = b :: RA [c] new t := ra_skip c [] new [b] t (by simpa using h)

def amp : List UInt8 := [38, 97, 109, 112, 59]
def nbsp : List UInt8 := [38, 110, 98, 115, 112, 59]
def quot : List UInt8 := [38, 113, 117, 111, 116, 59]
def lt : List UInt8 := [38, 108, 116, 59]
def gt : List UInt8 := [38, 103, 116, 59]

/-- One byte, written so that it is read as itself. -/
def one (attr : Bool) (b : UInt8) : List UInt8 :=
  if attr = true ∧ b = 34 then quot else if attr = false ∧ b = 60 then lt else if attr = false ∧ b = 62 then gt else [b]
/-- A text, written so: in one go. -/
def esc (attr : Bool) : Nat → List UInt8 → List UInt8
  | 0, _ => []
  | _ + 1, [] => []
  | d + 1, b :: t => if b = 38 then amp ++ esc attr d t else if b = 194 ∧ t.head? = some 160 then nbsp ++ esc attr d t.tail else one attr b ++ esc attr d t

def fin (attr : Bool) (l : List UInt8) : List UInt8 := if attr then RA [34] quot l else RA [62] gt (RA [60] lt l)

theorem fin_skip (attr : Bool) (x y : List UInt8) (h : ∀ b ∈ x, b ≠ 34 ∧ b ≠ 60 ∧ b ≠ 62) : fin attr (x ++ y) = x ++ fin attr y := by
  unfold fin
  split
  · exact ra_skip 34 [] _ x y (fun b hb => (h b hb).1)
  · rw [ra_skip 60 [] _ x y (fun b hb => (h b hb).2.1), ra_skip 62 [] _ x _ (fun b hb => (h b hb).2.2)]

theorem fin_one (attr : Bool) (b : UInt8) (y : List UInt8) : fin attr (b :: y) = one attr b ++ fin attr y := by
  cases attr
  · have e : one false b = if b = 60 then lt else if b = 62 then gt else [b] := by simp [one]
    have f : ∀ l, fin false l = RA [62] gt (RA [60] lt l) := fun _ => by simp [fin]
    rw [e, f, f]
    by_cases h1 : b = 60
    · subst h1
      rw [if_pos rfl, ra_one, ra_skip 62 [] _ lt _ (by decide)]
    rw [if_neg h1, ra_not 60 b _ _ h1]
    by_cases h2 : b = 62
    · subst h2
      rw [if_pos rfl, ra_one]
    · rw [if_neg h2, ra_not 62 b _ _ h2]
      rfl
  · have e : one true b = if b = 34 then quot else [b] := by simp [one]
    have f : ∀ l, fin true l = RA [34] quot l := fun _ => by simp [fin]
    rw [e, f, f]
    by_cases h1 : b = 34
    · subst h1
      rw [if_pos rfl, ra_one]
    · rw [if_neg h1, ra_not 34 b _ _ h1]
      rfl

theorem fin_nil (attr : Bool) : fin attr [] = [] := by
  unfold fin
  split
  · exact ra_nil _ _ (by simp)
  · rw [ra_nil _ _ (by simp), ra_nil _ _ (by simp)]

theorem head_amp (t : List UInt8) : (RA [38] amp t).head? = t.head? := by
  cases t with
  | nil => rw [ra_nil _ _ (by simp)]
  | cons b t =>
    by_cases h : b = 38
    · subst h
      rw [ra_one]
      rfl
    · rw [ra_not 38 b _ _ h]
      rfl

/-- The replacements one after the other do the same as one go. -/
theorem esc_eq (attr : Bool) : ∀ (d : Nat) (l : List UInt8), l.length ≤ d → fin attr (RA [194, 160] nbsp (RA [38] amp l)) = esc attr d l
  | 0, l, h => by
    obtain rfl : l = [] := List.eq_nil_of_length_eq_zero (by omega)
    rw [ra_nil _ _ (by simp), ra_nil _ _ (by simp), fin_nil]
    rfl
  | d + 1, [], _ => by
    rw [ra_nil _ _ (by simp), ra_nil _ _ (by simp), fin_nil]
    rfl
  | d + 1, b :: t, h => by
    simp only [List.length_cons] at h
    unfold esc
    by_cases h1 : b = 38
    · subst h1
      rw [if_pos rfl, ra_one, ra_skip 194 [160] _ amp _ (by decide), fin_skip attr amp _ (by decide), esc_eq attr d t (by omega)]
    rw [if_neg h1, ra_not 38 b _ _ h1]
    by_cases h2 : b = 194 ∧ t.head? = some 160
    · obtain ⟨rfl, h2⟩ := h2
      cases t with
      | nil => simp at h2
      | cons c t =>
        simp only [List.head?_cons, Option.some.injEq] at h2
        subst h2
        rw [if_pos (by simp), ra_not 38 160 _ _ (by decide), ra_hit _ _ _ (by simp) (by simp [List.isPrefixOf])]
        rw [fin_skip attr nbsp _ (by decide)]
        simp only [List.tail_cons, List.length_cons, List.length_nil, List.drop_succ_cons, List.drop_zero]
        rw [esc_eq attr d t (by simp only [List.length_cons] at h; omega)]
    · rw [if_neg h2, ra_miss _ _ _ _ (by simp) ?_, fin_one, esc_eq attr d t (by omega)]
      have hh := head_amp t
      cases hx : RA [38] amp t with
      | nil => simp [List.isPrefixOf]
      | cons c r =>
        rw [hx] at hh
        simp only [List.head?_cons] at hh
        simp only [List.isPrefixOf, Bool.and_true]
        rw [← hh] at h2
        simp only [Bool.and_eq_false_iff, beq_eq_false_iff_ne]
        by_cases hb : b = 194
        · right
          intro e
          exact h2 ⟨hb, by rw [← e]⟩
        · left
          exact fun e => hb e.symm
/-- How long it grows. -/
theorem ra_len (o : UInt8) (os new : List UInt8) (hn : 1 ≤ new.length) : ∀ (d : Nat) (l : List UInt8), l.length ≤ d → (RA (o :: os) new l).length ≤ l.length * new.length
  | 0, l, h => by
    obtain rfl : l = [] := List.eq_nil_of_length_eq_zero (by omega)
    rw [ra_nil _ _ (by simp)]
    exact Nat.zero_le _
  | d + 1, [], _ => by
    rw [ra_nil _ _ (by simp)]
    exact Nat.zero_le _
  | d + 1, b :: t, h => by
    simp only [List.length_cons] at h
    have e : (b :: t).length * new.length = t.length * new.length + new.length := by rw [List.length_cons, Nat.succ_mul]
    by_cases hp : (o :: os).isPrefixOf (b :: t) = true
    · rw [ra_hit _ _ _ (by simp) hp, List.length_append]
      have e2 : (b :: t).drop (o :: os).length = t.drop os.length := by rw [List.length_cons, List.drop_succ_cons]
      rw [e2]
      have ih := ra_len o os new hn d (t.drop os.length) (by rw [List.length_drop]; omega)
      have hm : (t.drop os.length).length * new.length ≤ t.length * new.length := Nat.mul_le_mul (by rw [List.length_drop]; omega) (Nat.le_refl _)
      omega
    · rw [ra_miss _ _ _ _ (by simp) ((Bool.not_eq_true _).mp hp), List.length_cons]
      have ih := ra_len o os new hn d t (by omega)
      omega
end Go.Proofs.YtjlgbakdnenjhaaDoor.Rp
