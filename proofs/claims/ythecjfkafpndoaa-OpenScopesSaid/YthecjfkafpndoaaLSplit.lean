/- Plain facts about byte lists: a text parted at blanks, and a name between blanks inside a text with blanks round it. No program, no condition. -/
import Derived.Lib.IndexMore
namespace Go.Proofs.Ythecjfkafpndoaa.L
open Go Go.Lib

/-- a text parted at each blank. -/
def splitB : List UInt8 → List (List UInt8)
  | [] => [[]]
  | c :: t => if c = 32 then [] :: splitB t else match splitB t with
    | [] => [[c]]
    | h :: r => (c :: h) :: r

theorem splitB_ne (s : List UInt8) : splitB s ≠ [] := by
  cases s with
  | nil => simp [splitB]
  | cons c t =>
    unfold splitB
    split
    · simp
    · split <;> simp

def consHead (p : List UInt8) : List (List UInt8) → List (List UInt8)
  | [] => [p]
  | h :: r => (p ++ h) :: r

theorem consHead_nil {l : List (List UInt8)} (h : l ≠ []) : consHead [] l = l := by
  cases l with
  | nil => exact absurd rfl h
  | cons a b => simp [consHead]

theorem consHead_app (p q : List UInt8) (l : List (List UInt8)) : consHead p (consHead q l) = consHead (p ++ q) l := by
  cases l <;> simp [consHead]

theorem splitB_blank (t : List UInt8) : splitB (32 :: t) = [] :: splitB t := by simp [splitB]

theorem splitB_other (c : UInt8) (t : List UInt8) (h : c ≠ 32) : splitB (c :: t) = consHead [c] (splitB t) := by
  conv => lhs; unfold splitB
  rw [if_neg h]
  have := splitB_ne t
  cases hs : splitB t with
  | nil => exact absurd hs this
  | cons a b => simp [consHead]

/-- what is parted holds no blank. -/
theorem splitB_free (s : List UInt8) : ∀ x ∈ splitB s, (32 : UInt8) ∉ x := by
  induction s with
  | nil => simp [splitB]
  | cons c t ih =>
    by_cases h : c = 32
    · subst h
      rw [splitB_blank]
      intro x hx
      rcases List.mem_cons.1 hx with rfl | hx
      · simp
      · exact ih x hx
    · rw [splitB_other c t h]
      have hne := splitB_ne t
      cases hs : splitB t with
      | nil => exact absurd hs hne
      | cons a b =>
        rw [hs] at ih
        intro x hx
        simp only [consHead, List.mem_cons] at hx
        rcases hx with rfl | hx
        · have := ih a (by simp)
          simp only [List.cons_append, List.nil_append, List.mem_cons, not_or]
          exact ⟨fun e => h e.symm, this⟩
        · exact ih x (by simp [hx])

/-- n ++ [32] begins l ++ [32], n without blank: n is the first part of l. -/
theorem head_iff (n : List UInt8) (hn : (32 : UInt8) ∉ n) : ∀ l : List UInt8, (n ++ [32]) <+: (l ++ [32]) ↔ (splitB l).head? = some n := by
  induction n with
  | nil =>
    intro l
    cases l with
    | nil => simp [splitB]
    | cons c t =>
      by_cases h : c = 32
      · subst h
        simp [splitB_blank]
      · rw [splitB_other c t h]
        have hne := splitB_ne t
        cases hs : splitB t with
        | nil => exact absurd hs hne
        | cons a b =>
          simp only [consHead, List.head?_cons]
          constructor
          · intro hp
            have : 32 = c := by simpa using hp
            exact absurd this.symm h
          · intro e; simp at e
  | cons d n ih =>
    intro l
    have hd : d ≠ 32 := fun e => hn (by simp [e])
    have hn' : (32 : UInt8) ∉ n := fun e => hn (by simp [e])
    cases l with
    | nil =>
      simp only [splitB, List.head?_cons, List.nil_append, List.cons_append]
      constructor
      · intro hp
        have := (List.cons_prefix_cons.1 hp).1
        exact absurd this hd
      · intro e; simp at e
    | cons c t =>
      by_cases h : c = 32
      · subst h
        rw [splitB_blank]
        simp only [List.head?_cons, List.cons_append]
        constructor
        · intro hp
          have := (List.cons_prefix_cons.1 hp).1
          exact absurd this hd
        · intro e; simp at e
      · rw [splitB_other c t h]
        have hne := splitB_ne t
        have := ih hn' t
        cases hs : splitB t with
        | nil => exact absurd hs hne
        | cons a b =>
          rw [hs] at this
          simp only [consHead, List.head?_cons, List.cons_append, List.cons_prefix_cons, List.nil_append, Option.some.injEq, List.cons.injEq] at this ⊢
          rw [this]
          constructor
          · rintro ⟨rfl, rfl⟩; exact ⟨rfl, rfl⟩
          · rintro ⟨rfl, rfl⟩; exact ⟨rfl, rfl⟩

/-- does ' n ' stand somewhere in ' l '? as a list. -/
theorem pad_iff (n : List UInt8) (hn : (32 : UInt8) ∉ n) : ∀ l : List UInt8, (∃ i, (32 :: (n ++ [32])) <+: ((32 :: (l ++ [32])).drop i)) ↔ n ∈ splitB l := by
  intro l
  have key : ∀ l : List UInt8, (∃ i, (32 :: (n ++ [32])) <+: ((l ++ [32]).drop i)) ↔ n ∈ (splitB l).tail := by
    intro l
    induction l with
    | nil =>
      simp only [splitB, List.tail_cons, List.not_mem_nil, iff_false, List.nil_append]
      rintro ⟨i, hp⟩
      have := hp.length_le
      simp at this
      omega
    | cons c t ih =>
      have step : (∃ i, (32 :: (n ++ [32])) <+: (((c :: t) ++ [32]).drop i)) ↔ ((32 :: (n ++ [32])) <+: ((c :: t) ++ [32])) ∨ (∃ i, (32 :: (n ++ [32])) <+: ((t ++ [32]).drop i)) := by
        constructor
        · rintro ⟨i, hp⟩
          cases i with
          | zero => exact .inl (by simpa using hp)
          | succ i => exact .inr ⟨i, by simpa using hp⟩
        · rintro (hp | ⟨i, hp⟩)
          · exact ⟨0, by simpa using hp⟩
          · exact ⟨i + 1, by simpa using hp⟩
      rw [step, ih]
      by_cases h : c = 32
      · subst h
        rw [splitB_blank]
        simp only [List.cons_append, List.cons_prefix_cons, true_and, List.tail_cons]
        rw [head_iff n hn t]
        have hne := splitB_ne t
        cases hs : splitB t with
        | nil => exact absurd hs hne
        | cons a b =>
          simp only [List.head?_cons, Option.some.injEq, List.tail_cons, List.mem_cons]
          constructor
          · rintro (rfl | hx)
            · exact .inl rfl
            · exact .inr hx
          · rintro (rfl | hx)
            · exact .inl rfl
            · exact .inr hx
      · rw [splitB_other c t h]
        have hne := splitB_ne t
        cases hs : splitB t with
        | nil => exact absurd hs hne
        | cons a b =>
          simp only [consHead, List.tail_cons, List.cons_append, List.cons_prefix_cons]
          constructor
          · rintro (⟨e, _⟩ | hx)
            · exact absurd e.symm h
            · exact hx
          · exact fun hx => .inr hx
  have := key (32 :: l)
  rw [splitB_blank] at this
  simpa using this

/-- strings.Contains of a text with a blank at each end, asked for a name with a blank at each end. -/
theorem contains_pad (n l : List UInt8) (hn : (32 : UInt8) ∉ n) : contains (32 :: (l ++ [32])) (32 :: (n ++ [32])) = decide (n ∈ splitB l) := by
  have h := pad_iff n hn l
  unfold contains
  congr 1
  apply propext
  rw [← h]
  rcases index_spec (32 :: (l ++ [32])) (32 :: (n ++ [32])) with ⟨h1, h2⟩ | ⟨i, h1, h2, h3, _⟩
  · rw [h1]
    constructor
    · intro e; omega
    · rintro ⟨i, hp⟩
      by_cases hi : i ≤ (32 :: (l ++ [32])).length
      · have := h2 i hi
        unfold occAt at this
        rw [List.isPrefixOf_iff_prefix.2 hp] at this
        cases this
      · rw [List.drop_eq_nil_of_le (by omega)] at hp
        have := hp.length_le
        simp at this
  · rw [h1]
    constructor
    · intro _
      exact ⟨i, List.isPrefixOf_iff_prefix.1 h3⟩
    · intro _; omega

/-- strings.Contains of a blank. -/
theorem contains_blank (n : List UInt8) : contains n [32] = decide ((32 : UInt8) ∈ n) := by
  unfold contains
  congr 1
  apply propext
  rcases index_spec n [32] with ⟨h1, h2⟩ | ⟨i, h1, h2, h3, _⟩
  · rw [h1]
    constructor
    · intro e; omega
    · intro hm
      obtain ⟨i, hi, e⟩ := List.getElem_of_mem hm
      have := h2 i (by omega)
      unfold occAt at this
      rw [List.drop_eq_getElem_cons hi, e] at this
      simp at this
  · rw [h1]
    constructor
    · intro _
      have := occAt_head rfl h3
      exact List.mem_of_getElem? this
    · intro _; omega
end Go.Proofs.Ythecjfkafpndoaa.L
