/- The reference's table of names, read as a list of rows: it is the program's. -/
import Derived.Test.YtjlgbakdnenjhaaDoorEntNum
namespace Go.Proofs.YtjlgbakdnenjhaaDoor.LE
open Go Go.RowKit Go.Proofs.YtjlgbakdnenjhaaDoorW.PrintWords Go.Proofs.YtjlgbakdnenjhaaDoorW.PrintLast Go.Proofs.YtjlgbakdnenjhaaDoorW.PrintMore Go.Proofs.YtjlgbakdnenjhaaDoor.XEn Go.Proofs.YtjlgbakdnenjhaaDoor.Ch

def scan1 (T : ByteArray) : Nat → Int → Option Int
  | 0, _ => none
  | k + 1, i => if 0 ≤ i ∧ i < (T.size : Int) then (if bt T i = 42 ∨ bt T i = 58 then some i else scan1 T k (wrap64 (i + 1))) else none
def scan2 (T : ByteArray) : Nat → Int → Int → Option (Int × Int)
  | 0, _, _ => none
  | k + 1, n, i => if 0 ≤ i ∧ i < (T.size : Int) then (if bt T i = 32 then some (n, i) else scan2 T k (wrap64 ((wrap64 (10 * n)) + (((bt T i) - 48) % 256))) (wrap64 (i + 1))) else none
def rowsFrom (T : ByteArray) : Nat → Int → Option (List (List UInt8 × Int × Bool))
  | 0, _ => none
  | k + 1, at_ => if at_ < (T.size : Int) then
      match scan1 T 30 at_ with
      | none => none
      | some e => match scan2 T 30 0 (wrap64 (e + 1)) with
        | none => none
        | some (n, i) => if 0 ≤ at_ ∧ at_ ≤ e then
            match rowsFrom T k (wrap64 (i + 1)) with
            | none => none
            | some r => some (((T.extract at_.toNat e.toNat).toList, n, (bt T e) == 42) :: r)
          else none
    else some []

def look (R : List (List UInt8 × Int × Bool)) (w : List UInt8) : Int × Bool :=
  match R with
  | [] => (-1, false)
  | r :: t => if r.1 = w then r.2 else look t w

theorem scan1_range (T : ByteArray) : ∀ (n : Nat) (i e : Int), scan1 T n i = some e → 0 ≤ e ∧ e < (T.size : Int)
  | 0, _, _, h => by simp [scan1] at h
  | n + 1, i, e, h => by
    unfold scan1 at h
    split at h
    · rename_i hr
      split at h
      · obtain rfl := Option.some.inj h
        exact hr
      · exact scan1_range T n _ e h
    · cases h

theorem row_l2 (T x : ByteArray) (at_ e : Int) (h0 : 0 ≤ at_) (h1 : at_ ≤ e) (he : 0 ≤ e ∧ e < (T.size : Int)) (r : Int × Bool) (B : Nat) : ∀ (n : Nat) (v i v2 i2 : Int), scan2 T n v i = some (v2, i2) →
    (∀ k, B < k → (if (T.extract at_.toNat e.toNat).toList = x.toList then some (v2, (bt T e) == 42) else clerestoryref1_rowOf.l0 k x T (wrap64 (i2 + 1))) = some r) → ∀ k, B + n < k → clerestoryref1_rowOf.l2 k x T at_ e v i = some r
  | 0, _, _, _, _, h, _, _, _ => by simp [scan2] at h
  | n + 1, v, i, v2, i2, h, H, k, hk => by
    obtain ⟨k, rfl⟩ : ∃ q, k = q + 1 := ⟨k - 1, by omega⟩
    unfold scan2 at h
    split at h
    · rename_i hr
      rw [clerestoryref1_rowOf.l2, if_pos hr.1, if_pos hr.2]
      split at h
      · rename_i c
        obtain ⟨rfl, rfl⟩ := Prod.mk.inj (Option.some.inj h)
        rw [if_pos c, if_pos h0, if_pos h1, if_pos (Int.le_of_lt he.2), if_pos he.1, if_pos he.2]
        exact H k (by omega)
      · rename_i c
        rw [if_neg c]
        exact row_l2 T x at_ e h0 h1 he r B n _ _ v2 i2 h H k (by omega)
    · cases h

theorem row_l1 (T x : ByteArray) (at_ e : Int) (r : Int × Bool) (B : Nat) : ∀ (n : Nat) (i : Int), scan1 T n i = some e →
    (∀ k, B < k → clerestoryref1_rowOf.j2 k x T at_ e = some r) → ∀ k, B + n < k → clerestoryref1_rowOf.l1 k x T at_ i = some r
  | 0, _, h, _, _, _ => by simp [scan1] at h
  | n + 1, i, h, H, k, hk => by
    obtain ⟨k, rfl⟩ : ∃ q, k = q + 1 := ⟨k - 1, by omega⟩
    unfold scan1 at h
    split at h
    · rename_i hr
      rw [clerestoryref1_rowOf.l1, if_pos hr.1, if_pos hr.2]
      split at h
      · rename_i c
        obtain rfl := Option.some.inj h
        by_cases c1 : bt T i = 42
        · rw [if_pos c1]
          exact H k (by omega)
        · rw [if_neg c1, if_pos (c.resolve_left c1)]
          exact H k (by omega)
      · rename_i c
        rw [if_neg (fun h => c (.inl h)), if_neg (fun h => c (.inr h))]
        exact row_l1 T x at_ e r B n _ h H k (by omega)
    · cases h

theorem row_l0 (T x : ByteArray) : ∀ (n : Nat) (at_ : Int) (R : List (List UInt8 × Int × Bool)), rowsFrom T n at_ = some R → ∀ k, 80 * n < k → clerestoryref1_rowOf.l0 k x T at_ = some (look R x.toList)
  | 0, _, _, h, _, _ => by simp [rowsFrom] at h
  | n + 1, at_, R, h, k, hk => by
    obtain ⟨k, rfl⟩ : ∃ q, k = q + 1 := ⟨k - 1, by omega⟩
    unfold rowsFrom at h
    split at h
    · rename_i hlt
      rw [clerestoryref1_rowOf.l0, if_pos hlt]
      split at h
      · cases h
      · rename_i e he
        split at h
        · cases h
        · rename_i v i hv
          split at h
          · rename_i hr
            split at h
            · cases h
            · rename_i R2 hR2
              obtain rfl := Option.some.inj h
              refine row_l1 T x at_ e _ (80 * n + 32) 30 at_ he ?_ k (by omega)
              intro k hk
              obtain ⟨k, rfl⟩ : ∃ q, k = q + 1 := ⟨k - 1, by omega⟩
              rw [clerestoryref1_rowOf.j2]
              refine row_l2 T x at_ e hr.1 hr.2 (scan1_range T 30 at_ e he) _ (80 * n) 30 0 _ v i hv ?_ k (by omega)
              intro k hk
              unfold look
              by_cases c : (T.extract at_.toNat e.toNat).toList = x.toList
              · rw [if_pos c, if_pos c]
              · rw [if_neg c, if_neg c]
                exact row_l0 T x n _ R2 hR2 k hk
          · cases h
    · rename_i hlt
      obtain rfl := Option.some.inj h
      rw [clerestoryref1_rowOf.l0, if_neg hlt]
      rfl

/-- The program's table. -/
def tabN : List S79 := entity_names.f.getD []
theorem tabN_eq : entity_names.f = some tabN := rfl
def tabT : ByteArray := clerestoryref1_tableText.f.getD ByteArray.empty
theorem tabT_eq : clerestoryref1_tableText.f = some tabT := rfl
def rowsN : List (List UInt8 × Int × Bool) := tabN.map fun x => (x.f0.toList, x.f1, x.f2)
theorem rows_eq : rowsFrom tabT 60 0 = some rowsN := by decide +kernel

theorem rowOf_eq (x : ByteArray) (k : Nat) (hk : 4800 < k) : clerestoryref1_rowOf.f k x = some (look rowsN x.toList) := by
  unfold clerestoryref1_rowOf.f
  rw [tabT_eq, Option.bind_some]
  exact row_l0 tabT x 60 0 rowsN rows_eq k hk

theorem rows_ok : rowsN.all (fun r => decide (look rowsN r.1 = r.2 ∧ 14 ≤ r.2.1 ∧ r.2.1 ≤ 65535 ∧ 1 ≤ r.1.length ∧ r.1.length ≤ 8 ∧ ¬ (59 : UInt8) ∈ r.1)) = true := by decide +kernel
theorem look_mem : ∀ (R : List (List UInt8 × Int × Bool)) (w : List UInt8), 0 ≤ (look R w).1 → (w, look R w) ∈ R
  | [], w, h => by simp [look] at h
  | r :: t, w, h => by
    unfold look at h ⊢
    split
    · rename_i c
      subst c
      simp
    · rename_i c
      rw [if_neg c] at h
      exact List.mem_cons_of_mem _ (look_mem t w h)
end Go.Proofs.YtjlgbakdnenjhaaDoor.LE
