/- A reference by its name: the program's longest match over its table is the reference's first match from the longest on down. -/
import Derived.Test.YtjlgbakdnenjhaaDoorEntRow
namespace Go.Proofs.YtjlgbakdnenjhaaDoor.LE
open Go Go.RowKit Go.Proofs.YtjlgbakdnenjhaaDoorW.PrintWords Go.Proofs.YtjlgbakdnenjhaaDoorW.PrintLast Go.Proofs.YtjlgbakdnenjhaaDoorW.PrintMore Go.Proofs.YtjlgbakdnenjhaaDoor.XEn Go.Proofs.YtjlgbakdnenjhaaDoor.Ch

theorem prefix_eq (s p : ByteArray) : strings_HasPrefix.f s p = some (decide (s.data.toList.take p.data.toList.length = p.data.toList)) := by
  unfold strings_HasPrefix.f stringslite_HasPrefix.f
  have e0 : p.size = p.data.toList.length := by rw [Array.length_toList]; rfl
  have e1 : s.size = s.data.toList.length := by rw [Array.length_toList]; rfl
  by_cases c : (s.size : Int) ≥ (p.size : Int)
  · rw [if_pos c, if_pos (by omega), if_pos (by omega)]
    have e2 : (s.extract 0 (p.size : Int).toNat).toList = s.data.toList.take p.data.toList.length := by
      rw [Lib.toList_data, ← e0]
      simp [Array.toList_extract]
    rw [e2, Lib.toList_data]
    simp only [Option.bind_some]
    congr 1
    rw [Bool.eq_iff_iff]
    simp
  · rw [if_neg c]
    have : ¬ s.data.toList.take p.data.toList.length = p.data.toList := fun h => by
      have := congrArg List.length h
      rw [List.length_take] at this
      omega
    simp only [Option.bind_some]
    rw [decide_eq_false this]


/-- What stands behind the first byte. -/
def tl (s : ByteArray) : List UInt8 := s.data.toList.drop 1
abbrev Row := List UInt8 × Int × Bool
def nx (s : ByteArray) (w : List UInt8) : Nat := if w.length + 1 < s.size ∧ bt s ((w.length + 1 : Nat) : Int) = 59 then w.length + 2 else w.length + 1
def acc (s : ByteArray) (r : Row) : Prop := (tl s).take r.1.length = r.1 ∧ (nx s r.1 ≠ r.1.length + 1 ∨ r.2.2 = true)
instance (s : ByteArray) (r : Row) : Decidable (acc s r) := inferInstanceAs (Decidable (_ ∧ _))
def foldN (s : ByteArray) : ByteArray × Int → List Row → ByteArray × Int
  | tm, [] => tm
  | tm, r :: t => foldN s (if acc s r ∧ tm.2 < (nx s r.1 : Int) then (signB r.2.1, (nx s r.1 : Int)) else tm) t

theorem fold_prop (s : ByteArray) : ∀ (l : List Row) (tm : ByteArray × Int), tm.2 ≤ (foldN s tm l).2 ∧ (∀ r ∈ l, acc s r → (nx s r.1 : Int) ≤ (foldN s tm l).2) ∧
    (foldN s tm l = tm ∨ ∃ r ∈ l, acc s r ∧ foldN s tm l = (signB r.2.1, (nx s r.1 : Int)))
  | [], tm => ⟨Int.le_refl _, fun r hr => by simp at hr, .inl rfl⟩
  | r :: t, tm => by
    unfold foldN
    by_cases c : acc s r ∧ tm.2 < (nx s r.1 : Int)
    · rw [if_pos c]
      obtain ⟨h1, h2, h3⟩ := fold_prop s t (signB r.2.1, (nx s r.1 : Int))
      simp only at h1
      refine ⟨by omega, fun r' hr' ha => ?_, .inr ?_⟩
      · rcases List.mem_cons.1 hr' with rfl | hr'
        · exact h1
        · exact h2 r' hr' ha
      · rcases h3 with h3 | ⟨r', hr', ha, h3⟩
        · exact ⟨r, by simp, c.1, h3⟩
        · exact ⟨r', by simp [hr'], ha, h3⟩
    · rw [if_neg c]
      obtain ⟨h1, h2, h3⟩ := fold_prop s t tm
      refine ⟨h1, fun r' hr' ha => ?_, ?_⟩
      · rcases List.mem_cons.1 hr' with rfl | hr'
        · have : ¬ tm.2 < (nx s r'.1 : Int) := fun h => c ⟨ha, h⟩
          omega
        · exact h2 r' hr' ha
      · rcases h3 with h3 | ⟨r', hr', ha, h3⟩
        · exact .inl h3
        · exact .inr ⟨r', by simp [hr'], ha, h3⟩

/-- What the reference finds at a length. -/
def cand (s : ByteArray) (j : Nat) : Option (Int × Bool) :=
  if s.size < j then none else
  let wh := decide (bt s ((j - 1 : Nat) : Int) = 59)
  let l := look rowsN ((tl s).take (if wh = true then j - 2 else j - 1))
  if l.1 < 0 ∨ wh = false ∧ l.2 = false then none else some (l.1, wh)
def top (s : ByteArray) : Nat → ByteArray × Int
  | 0 => (⟨#[]⟩, 0)
  | 1 => (⟨#[]⟩, 0)
  | j + 2 => match cand s (j + 2) with
    | none => top s (j + 1)
    | some (v, _) => (signB v, ((j + 2 : Nat) : Int))

theorem top_prop (s : ByteArray) : ∀ (n : Nat), (top s n = (⟨#[]⟩, 0) ∧ ∀ j, 2 ≤ j → j ≤ n → cand s j = none) ∨ ∃ j v wh, 2 ≤ j ∧ j ≤ n ∧ cand s j = some (v, wh) ∧ top s n = (signB v, (j : Int)) ∧ ∀ j', j < j' → j' ≤ n → cand s j' = none
  | 0 => .inl ⟨rfl, fun j h1 h2 => by omega⟩
  | 1 => .inl ⟨rfl, fun j h1 h2 => by omega⟩
  | n + 2 => by
    cases hc : cand s (n + 2) with
    | none =>
      have e : top s (n + 2) = top s (n + 1) := by simp only [top, hc]
      rw [e]
      rcases top_prop s (n + 1) with ⟨h1, h2⟩ | ⟨j, v, wh, h1, h2, h3, h4, h5⟩
      · refine .inl ⟨h1, fun j a b => ?_⟩
        by_cases e : j = n + 2
        · rw [e, hc]
        · exact h2 j a (by omega)
      · refine .inr ⟨j, v, wh, h1, by omega, h3, h4, fun j' a b => ?_⟩
        by_cases e : j' = n + 2
        · rw [e, hc]
        · exact h5 j' a (by omega)
    | some vw =>
      obtain ⟨v, wh⟩ := vw
      refine .inr ⟨n + 2, v, wh, by omega, Nat.le_refl _, hc, by simp only [top, hc], fun j' a b => by omega⟩

theorem tl_len (s : ByteArray) : (tl s).length = s.size - 1 := by
  unfold tl
  rw [List.length_drop, Array.length_toList]
  rfl
theorem tl_bt (s : ByteArray) (i : Nat) (h : i + 1 < s.size) : (tl s)[i]? = some (UInt8.ofNat (bt s ((i + 1 : Nat) : Int)).toNat) := by
  unfold tl bt
  rw [List.getElem?_drop, dif_pos (by simpa using h)]
  have h2 : 1 + i < s.data.toList.length := by rw [Array.length_toList]; show 1 + i < s.size; omega
  rw [List.getElem?_eq_getElem h2]
  congr 1
  simp
  congr 1
  omega

theorem row_facts (r : Row) (h : r ∈ rowsN) : look rowsN r.1 = r.2 ∧ 14 ≤ r.2.1 ∧ r.2.1 ≤ 65535 ∧ 1 ≤ r.1.length ∧ r.1.length ≤ 8 ∧ ¬ (59 : UInt8) ∈ r.1 := of_decide_eq_true (List.all_eq_true.1 rows_ok r h)

theorem acc_cand (s : ByteArray) (r : Row) (hr : r ∈ rowsN) (ha : acc s r) : 2 ≤ nx s r.1 ∧ nx s r.1 ≤ 10 ∧ ∃ wh, cand s (nx s r.1) = some (r.2.1, wh) := by
  obtain ⟨f1, f2, f3, f4, f5, f6⟩ := row_facts r hr
  obtain ⟨h1, h2⟩ := ha
  have hl : r.1.length ≤ (tl s).length := by
    have := congrArg List.length h1
    rw [List.length_take] at this
    omega
  rw [tl_len] at hl
  by_cases c : r.1.length + 1 < s.size ∧ bt s ((r.1.length + 1 : Nat) : Int) = 59
  · have e : nx s r.1 = r.1.length + 2 := by unfold nx; rw [if_pos c]
    rw [e]
    refine ⟨by omega, by omega, true, ?_⟩
    unfold cand
    rw [if_neg (by omega)]
    have hw : decide (bt s ((r.1.length + 2 - 1 : Nat) : Int) = 59) = true := decide_eq_true c.2
    simp only [hw, if_true]
    rw [show r.1.length + 2 - 2 = r.1.length by omega, h1, f1, if_neg (by simp; omega)]
  · have e : nx s r.1 = r.1.length + 1 := by unfold nx; rw [if_neg c]
    rw [e]
    rw [e] at h2
    have hb : r.2.2 = true := by
      rcases h2 with h2 | h2
      · exact absurd rfl h2
      · exact h2
    refine ⟨by omega, by omega, false, ?_⟩
    unfold cand
    rw [if_neg (by omega)]
    have hw : decide (bt s ((r.1.length + 1 - 1 : Nat) : Int) = 59) = false := by
      refine decide_eq_false fun h59 => f6 ?_
      have hlt : r.1.length - 1 + 1 < s.size := by omega
      have hb2 := tl_bt s (r.1.length - 1) hlt
      rw [show r.1.length - 1 + 1 = r.1.length + 1 - 1 by omega, h59] at hb2
      have hm : r.1[r.1.length - 1]? = some 59 := by
        conv => lhs; arg 1; rw [← h1]
        rw [List.getElem?_take, if_pos (by omega), hb2]
        rfl
      exact List.mem_of_getElem? hm
    simp only [hw, Bool.false_eq_true, if_false]
    rw [show r.1.length + 1 - 1 = r.1.length by omega, h1, f1, if_neg (by simp [hb]; omega)]

theorem cand_acc (s : ByteArray) (j : Nat) (hj : 2 ≤ j) (v : Int) (wh : Bool) (h : cand s j = some (v, wh)) : ∃ r ∈ rowsN, acc s r ∧ j ≤ nx s r.1 := by
  unfold cand at h
  split at h
  · cases h
  rename_i hsz
  have hlen := tl_len s
  by_cases c : bt s ((j - 1 : Nat) : Int) = 59
  · have hw := decide_eq_true c
    simp only [hw, if_true] at h
    split at h
    · cases h
    rename_i hc
    rw [not_or] at hc
    have hm := look_mem rowsN ((tl s).take (j - 2)) (by have := hc.1; omega)
    refine ⟨_, hm, ?_⟩
    have hl : ((tl s).take (j - 2)).length = j - 2 := by rw [List.length_take]; omega
    have e : nx s ((tl s).take (j - 2)) = j := by
      unfold nx
      rw [hl, if_pos ⟨by omega, by rw [show j - 2 + 1 = j - 1 by omega]; exact c⟩]
      omega
    refine ⟨⟨by simp only; rw [hl], .inl ?_⟩, by simp only; omega⟩
    simp only
    rw [e, hl]
    omega
  · have hw := decide_eq_false c
    simp only [hw, Bool.false_eq_true, if_false] at h
    split at h
    · cases h
    rename_i hc
    rw [not_or] at hc
    have hm := look_mem rowsN ((tl s).take (j - 1)) (by have := hc.1; omega)
    refine ⟨_, hm, ?_⟩
    have hl : ((tl s).take (j - 1)).length = j - 1 := by rw [List.length_take]; omega
    refine ⟨⟨by simp only; rw [hl], .inr ?_⟩, ?_⟩
    · simp only
      have := hc.2
      simpa using this
    · simp only
      unfold nx
      rw [hl]
      split <;> omega

theorem fold_top (s : ByteArray) : foldN s (⟨#[]⟩, 0) rowsN = top s 10 := by
  obtain ⟨_, h2, h3⟩ := fold_prop s rowsN (⟨#[]⟩, 0)
  rcases top_prop s 10 with ⟨t1, t2⟩ | ⟨j, v, wh, j1, j2, j3, j4, j5⟩
  · rcases h3 with h3 | ⟨r, hr, ha, _⟩
    · rw [h3, t1]
    · obtain ⟨a1, a2, wh, a3⟩ := acc_cand s r hr ha
      rw [t2 _ a1 a2] at a3
      cases a3
  · obtain ⟨y, hy, hya, hyn⟩ := cand_acc s j j1 v wh j3
    have := h2 y hy hya
    rcases h3 with h3 | ⟨r, hr, ha, h3⟩
    · rw [h3] at this
      simp only at this
      omega
    · rw [h3] at this
      simp only at this
      obtain ⟨a1, a2, wh2, a3⟩ := acc_cand s r hr ha
      have e : nx s r.1 = j := by
        rcases Nat.lt_trichotomy (nx s r.1) j with c | c | c
        · omega
        · exact c
        · rw [j5 _ c a2] at a3
          cases a3
      rw [e, j3] at a3
      obtain ⟨rfl, rfl⟩ := Prod.mk.inj (Option.some.inj a3)
      rw [h3, j4, e]
end Go.Proofs.YtjlgbakdnenjhaaDoor.LE
