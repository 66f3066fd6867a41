/- The plain law behind EntityReads: reading all references and writing a text without them are the reference's. -/
import Derived.Test.YtjlgbakdnenjhaaDoorEntFind
import Derived.Test.YtjlgbakdnenjhaaDoorRepl
import Derived.Test.YtjlgbakdnenjhaaDoorQEntityReads
namespace Go.Proofs.YtjlgbakdnenjhaaDoor.Pure
open Go Go.RowKit Go.Proofs.YtjlgbakdnenjhaaDoorW.PrintWords Go.Proofs.YtjlgbakdnenjhaaDoorW.PrintLast Go.Proofs.YtjlgbakdnenjhaaDoorW.PrintMore Go.Proofs.YtjlgbakdnenjhaaDoor.XEn Go.Proofs.YtjlgbakdnenjhaaDoor.Ch Go.Proofs.YtjlgbakdnenjhaaDoor.LE Go.Proofs.YtjlgbakdnenjhaaDoor.L
set_option maxRecDepth 100000

theorem find_all (s : ByteArray) (hs : s.size ≤ 1000) (attr : Bool) : ∃ r, FB s r ∧ ∀ k, 8000 < k → entity_Find.f k s attr = some r ∧ clerestoryref1_EntityFind.f k s attr = some r := by
  obtain ⟨r, hb, h1, h2⟩ := find_both s hs attr 8001 (by decide)
  refine ⟨r, hb, fun k hk => ?_⟩
  have e : 8001 + (k - 8001) = k := by omega
  have m1 := more_rounds (g := fun k => entity_Find.f k s attr) (fun k => entity_Find.mono s attr k) 8001 (k - 8001) _ h1
  have m2 := more_rounds (g := fun k => clerestoryref1_EntityFind.f k s attr) (fun k => clerestoryref1_EntityFind.mono s attr k) 8001 (k - 8001) _ h2
  rw [e] at m1 m2
  exact ⟨m1, m2⟩

theorem cut_cut (t : ByteArray) (i a : Nat) : (t.extract i t.size).extract a (t.extract i t.size).size = t.extract (i + a) t.size := by
  apply ByteArray.ext
  simp only [ByteArray.data_extract, Array.extract_extract, ByteArray.size_extract]
  congr 1
  have : t.data.size = t.size := rfl
  omega
theorem cut_one (t : ByteArray) (i : Nat) (h : i < t.size) : (t.extract i t.size).extract 0 1 = t.extract i (i + 1) := by
  apply ByteArray.ext
  simp only [ByteArray.data_extract, Array.extract_extract]
  congr 1
  omega
theorem put_bytes (l : List UInt8) (b : ByteArray) : (⟨l.toArray⟩ : ByteArray) ++ b = ⟨(l ++ b.data.toList).toArray⟩ := by
  apply ByteArray.ext
  rw [ByteArray.data_append]
  show l.toArray ++ b.data = _
  apply Array.toList_inj.1
  simp

theorem read_both (t : ByteArray) (ht : t.size ≤ 200) (attr : Bool) (d : Nat) : ∀ (i : Nat) (out : List UInt8), t.size - i ≤ d → i ≤ t.size → out.length ≤ 9 * i →
    ∃ R : List UInt8, (∀ k kf, 8000 < kf → d + 1 < k → entity_read.readL (fun s => entity_Find.f kf s attr) k (t.extract i t.size) out = some R) ∧ (∀ k, 8000 + d + 2 < k → clerestoryref1_EntityRead.l0 k t attr ⟨out.toArray⟩ (i : Int) = some ⟨R.toArray⟩) := by
  induction d with
  | zero =>
    intro i out hd hi ho
    refine ⟨out, fun k kf hkf hk => ?_, fun k hk => ?_⟩
    · obtain ⟨k, rfl⟩ : ∃ q, k = q + 1 := ⟨k - 1, by omega⟩
      unfold entity_read.readL
      rw [if_pos (by simp only [ByteArray.size_extract]; omega)]
    · obtain ⟨k, rfl⟩ : ∃ q, k = q + 1 := ⟨k - 1, by omega⟩
      rw [clerestoryref1_EntityRead.l0, if_neg (by omega)]
  | succ d ih =>
    intro i out hd hi ho
    by_cases hz : i = t.size
    · refine ⟨out, fun k kf hkf hk => ?_, fun k hk => ?_⟩
      · obtain ⟨k, rfl⟩ : ∃ q, k = q + 1 := ⟨k - 1, by omega⟩
        unfold entity_read.readL
        rw [if_pos (by simp only [ByteArray.size_extract]; omega)]
      · obtain ⟨k, rfl⟩ : ∃ q, k = q + 1 := ⟨k - 1, by omega⟩
        rw [clerestoryref1_EntityRead.l0, if_neg (by omega)]
    have hsz : (t.extract i t.size).size = t.size - i := by simp only [ByteArray.size_extract]; omega
    obtain ⟨r, hb, hf⟩ := find_all (t.extract i t.size) (by omega) attr
    obtain ⟨hb0, hb1, hb2⟩ := hb
    rw [hsz] at hb1
    by_cases c : r.2 = 0
    · have hone : ((t.extract i t.size).extract 0 1).data.toList.length = 1 := by
        rw [cut_one t i (by omega), Array.length_toList]
        show (t.extract i (i + 1)).size = 1
        simp only [ByteArray.size_extract]
        omega
      obtain ⟨R, h1, h2⟩ := ih (i + 1) (out ++ ((t.extract i t.size).extract 0 1).data.toList) (by omega) (by omega) (by rw [List.length_append, hone]; omega)
      refine ⟨R, fun k kf hkf hk => ?_, fun k hk => ?_⟩
      · obtain ⟨k, rfl⟩ : ∃ q, k = q + 1 := ⟨k - 1, by omega⟩
        unfold entity_read.readL
        rw [if_neg (by omega), (hf kf hkf).1, Option.bind_some, if_pos (by omega), if_pos c, cut_cut]
        exact h1 k kf hkf (by omega)
      · obtain ⟨k, rfl⟩ : ∃ q, k = q + 1 := ⟨k - 1, by omega⟩
        rw [clerestoryref1_EntityRead.l0, if_pos (by omega), if_pos (by omega), if_pos (by omega), show ((i : Nat) : Int).toNat = i from rfl, (hf k (by omega)).2, Option.bind_some, if_pos c, wrap_i i (by omega), if_pos (by omega), if_pos (by omega),
          show (((i + 1 : Nat) : Nat) : Int).toNat = i + 1 from rfl]
        have h3 := h2 k (by omega)
        rw [cut_one t i (by omega)] at h3
        rw [if_pos, put_bytes]
        · exact h3
        · have e1 : (⟨out.toArray⟩ : ByteArray).size = out.length := by show out.toArray.size = _; simp
          rw [e1]
          simp only [ByteArray.size_extract]
          omega
    · obtain ⟨m, hm⟩ : ∃ m : Nat, r.2 = (m : Int) := ⟨r.2.toNat, by omega⟩
      have hl1 : r.1.data.toList.length = r.1.size := Array.length_toList
      obtain ⟨R, h1, h2⟩ := ih (i + m) (out ++ r.1.data.toList) (by omega) (by omega) (by rw [List.length_append, hl1]; omega)
      refine ⟨R, fun k kf hkf hk => ?_, fun k hk => ?_⟩
      · obtain ⟨k, rfl⟩ : ∃ q, k = q + 1 := ⟨k - 1, by omega⟩
        unfold entity_read.readL
        rw [if_neg (by omega), (hf kf hkf).1, Option.bind_some, if_pos (by omega), if_neg c, if_pos (by rw [hsz]; omega), hm, show ((m : Nat) : Int).toNat = m from rfl, cut_cut]
        exact h1 k kf hkf (by omega)
      · obtain ⟨k, rfl⟩ : ∃ q, k = q + 1 := ⟨k - 1, by omega⟩
        rw [clerestoryref1_EntityRead.l0, if_pos (by omega), if_pos (by omega), if_pos (by omega), show ((i : Nat) : Int).toNat = i from rfl, (hf k (by omega)).2, Option.bind_some, if_neg c]
        have e1 : (⟨out.toArray⟩ : ByteArray).size = out.length := by show out.toArray.size = _; simp
        rw [if_pos (by rw [e1]; omega), put_bytes, hm, show wrap64 ((i : Int) + (m : Int)) = ((i + m : Nat) : Int) by unfold wrap64; omega]
        exact h2 k (by omega)

theorem read_eq (t : ByteArray) (ht : t.size ≤ 200) (attr : Bool) : ∃ R : ByteArray, entity_read.f 9000 t attr = some R ∧ clerestoryref1_EntityRead.f 9000 t attr = some R := by
  obtain ⟨R, h1, h2⟩ := read_both t ht attr t.size 0 [] (by omega) (by omega) (by simp)
  refine ⟨⟨R.toArray⟩, ?_, ?_⟩
  · unfold entity_read.f
    have := h1 9000 9000 (by decide) (by omega)
    rw [show t.extract 0 t.size = t by simp] at this
    rw [this]
    rfl
  · exact h2 9000 (by omega)

/-! ### writing -/
theorem bt_list (s : ByteArray) (i : Nat) (h : i < s.size) : ∃ b : UInt8, s.data.toList.drop i = b :: s.data.toList.drop (i + 1) ∧ bt s (i : Int) = (b.toNat : Int) ∧ (s.extract i (i + 1)).data.toList = [b] := by
  have hl : i < s.data.toList.length := by rw [Array.length_toList]; exact h
  refine ⟨s.data.toList[i], List.drop_eq_getElem_cons hl, ?_, ?_⟩
  · unfold bt
    simp [Array.getElem_toList, h]
    rfl
  · rw [ByteArray.data_extract, Array.toList_extract, List.extract_eq_take_drop, List.drop_eq_getElem_cons hl, Nat.add_sub_cancel_left]
    simp

theorem out_size (l : List UInt8) : (⟨l.toArray⟩ : ByteArray).size = l.length := by show l.toArray.size = _; simp

theorem esc_ref (s : ByteArray) (hs : s.size ≤ 200) (attr : Bool) (d : Nat) : ∀ (i : Nat) (out : List UInt8), s.size - i ≤ d → i ≤ s.size → out.length ≤ 9 * i → ∀ k, 4 * d + 4 < k →
    clerestoryref1_EntityEscape.l0 k s attr ⟨out.toArray⟩ (i : Int) = some ⟨(out ++ Rp.esc attr d (s.data.toList.drop i)).toArray⟩ := by
  induction d with
  | zero =>
    intro i out hd hi ho k hk
    obtain ⟨k, rfl⟩ : ∃ q, k = q + 1 := ⟨k - 1, by omega⟩
    rw [clerestoryref1_EntityEscape.l0, if_neg (by omega)]
    simp [Rp.esc]
  | succ d ih =>
    intro i out hd hi ho k hk
    obtain ⟨k, rfl⟩ : ∃ q, k = q + 4 := ⟨k - 4, by omega⟩
    by_cases hz : i = s.size
    · rw [clerestoryref1_EntityEscape.l0, if_neg (by omega), List.drop_eq_nil_of_le (by rw [Array.length_toList]; exact Nat.le_of_eq hz.symm)]
      simp [Rp.esc]
    have hlt : i < s.size := by omega
    obtain ⟨b, hb1, hb2, hb3⟩ := bt_list s i hlt
    have hbl := b.toNat_lt
    have hos := out_size out
    -- what comes of so many bytes more
    have put : ∀ (x : List UInt8) (j k : Nat), 1 ≤ j → i + j ≤ s.size → x.length ≤ 9 → 4 * d + 4 < k → clerestoryref1_EntityEscape.l0 k s attr ⟨(out ++ x).toArray⟩ ((i + j : Nat) : Int) = some ⟨(out ++ (x ++ Rp.esc attr d (s.data.toList.drop (i + j)))).toArray⟩ := by
      intro x j k h1 h2 h3 hk
      rw [ih (i + j) (out ++ x) (by omega) h2 (by rw [List.length_append]; omega) k hk, List.append_assoc]
    have lit : ∀ x : List UInt8, (⟨out.toArray⟩ : ByteArray) ++ ⟨x.toArray⟩ = ⟨(out ++ x).toArray⟩ := fun x => put_bytes out _
    rw [hb1, show Rp.esc attr (d + 1) (b :: s.data.toList.drop (i + 1)) = if b = 38 then Rp.amp ++ Rp.esc attr d (s.data.toList.drop (i + 1)) else if b = 194 ∧ (s.data.toList.drop (i + 1)).head? = some 160 then Rp.nbsp ++ Rp.esc attr d (s.data.toList.drop (i + 1)).tail else Rp.one attr b ++ Rp.esc attr d (s.data.toList.drop (i + 1)) from rfl]
    rw [clerestoryref1_EntityEscape.l0, if_pos (by omega), if_pos (by omega), hb2, wrap_i i (by omega)]
    have nat_of : ∀ n : Nat, n < 256 → ∀ z : Int, z = (n : Int) → ((b.toNat : Int) = z ↔ b = UInt8.ofNat n) := by
      rintro n hn z rfl
      constructor
      · intro e
        apply UInt8.toNat_inj.1
        rw [UInt8.toNat_ofNat', Nat.mod_eq_of_lt (by omega)]
        omega
      · rintro rfl
        rw [UInt8.toNat_ofNat', Nat.mod_eq_of_lt (by omega)]
    by_cases c1 : b = 38
    · rw [if_pos ((nat_of 38 (by decide) 38 rfl).2 c1), if_pos (by rw [hos]; omega), if_pos c1, show (⟨#[38, 97, 109, 112, 59]⟩ : ByteArray) = ⟨Rp.amp.toArray⟩ from rfl, lit]
      exact put Rp.amp 1 (k + 3) (by omega) (by omega) (by decide) (by omega)
    rw [if_neg (fun e => c1 ((nat_of 38 (by decide) 38 rfl).1 e)), if_neg c1]
    -- behind the test on two bytes
    have rest : clerestoryref1_EntityEscape.j1 (k + 3) s attr ⟨out.toArray⟩ (i : Int) false = some ⟨(out ++ (Rp.one attr b ++ Rp.esc attr d (s.data.toList.drop (i + 1)))).toArray⟩ := by
      rw [clerestoryref1_EntityEscape.j1, if_neg Bool.false_ne_true]
      have self : (⟨out.toArray⟩ : ByteArray) ++ s.extract i (i + 1) = ⟨(out ++ [b]).toArray⟩ := by rw [put_bytes, hb3]
      have ssz : (s.extract i (i + 1)).size = 1 := by simp only [ByteArray.size_extract]; omega
      cases attr
      · rw [if_neg Bool.false_ne_true, clerestoryref1_EntityEscape.j2, if_neg Bool.false_ne_true, if_neg Bool.false_ne_true, if_pos (by omega), if_pos (by omega), hb2, clerestoryref1_EntityEscape.j3]
        by_cases c2 : b = 60
        · rw [if_pos (by rw [(nat_of 60 (by decide) 60 rfl).2 c2]; rfl), if_pos (by rw [hos]; omega), show (⟨#[38, 108, 116, 59]⟩ : ByteArray) = ⟨Rp.lt.toArray⟩ from rfl, lit, wrap_i i (by omega)]
          rw [show Rp.one false b = Rp.lt by subst c2; rfl]
          exact put Rp.lt 1 k (by omega) (by omega) (by decide) (by omega)
        · have n60 : ¬ ((b.toNat : Int) = 60) := fun e => c2 ((nat_of 60 (by decide) 60 rfl).1 e)
          rw [if_neg (by rw [beq_eq_false_iff_ne.2 n60]; exact Bool.false_ne_true), if_neg Bool.false_ne_true, if_pos (by omega), if_pos (by omega), hb2, wrap_i i (by omega)]
          by_cases c3 : b = 62
          · rw [if_pos ((nat_of 62 (by decide) 62 rfl).2 c3), if_pos (by rw [hos]; omega), show (⟨#[38, 103, 116, 59]⟩ : ByteArray) = ⟨Rp.gt.toArray⟩ from rfl, lit]
            rw [show Rp.one false b = Rp.gt by subst c3; rfl]
            exact put Rp.gt 1 k (by omega) (by omega) (by decide) (by omega)
          · rw [if_neg (fun e => c3 ((nat_of 62 (by decide) 62 rfl).1 e)), if_pos (by omega), if_pos (by omega), show ((i : Nat) : Int).toNat = i from rfl, show (((i + 1 : Nat) : Nat) : Int).toNat = i + 1 from rfl, if_pos (by rw [hos, ssz]; omega), self]
            rw [show Rp.one false b = [b] by simp [Rp.one, c2, c3]]
            exact put [b] 1 k (by omega) (by omega) (by simp) (by omega)
      · rw [if_pos rfl, if_pos (by omega), if_pos (by omega), hb2, clerestoryref1_EntityEscape.j2]
        by_cases c2 : b = 34
        · rw [if_pos (by rw [(nat_of 34 (by decide) 34 rfl).2 c2]; rfl), if_pos (by rw [hos]; omega), show (⟨#[38, 113, 117, 111, 116, 59]⟩ : ByteArray) = ⟨Rp.quot.toArray⟩ from rfl, lit, wrap_i i (by omega)]
          rw [show Rp.one true b = Rp.quot by subst c2; rfl]
          exact put Rp.quot 1 (k + 1) (by omega) (by omega) (by decide) (by omega)
        · have n34 : ¬ ((b.toNat : Int) = 34) := fun e => c2 ((nat_of 34 (by decide) 34 rfl).1 e)
          rw [if_neg (by rw [beq_eq_false_iff_ne.2 n34]; exact Bool.false_ne_true), if_pos rfl, clerestoryref1_EntityEscape.j3, if_neg Bool.false_ne_true, if_pos rfl, if_pos (by omega), wrap_i i (by omega), if_pos (by omega), if_pos (by omega), show ((i : Nat) : Int).toNat = i from rfl, show (((i + 1 : Nat) : Nat) : Int).toNat = i + 1 from rfl, if_pos (by rw [hos, ssz]; omega), self]
          rw [show Rp.one true b = [b] by simp [Rp.one, c2]]
          exact put [b] 1 k (by omega) (by omega) (by simp) (by omega)
    by_cases c2 : b = 194
    · rw [if_pos ((nat_of 194 (by decide) 194 rfl).2 c2)]
      by_cases hl : i + 1 < s.size
      · obtain ⟨b', hb1', hb2', _⟩ := bt_list s (i + 1) hl
        rw [if_pos (by omega), if_pos (by omega), hb2', hb1']
        by_cases c3 : b' = 160
        · have e160 : ((b'.toNat : Int) == 160) = true := by rw [c3]; rfl
          rw [e160, clerestoryref1_EntityEscape.j1, if_pos rfl, if_pos (by rw [hos]; omega), if_pos ⟨c2, by rw [c3]; rfl⟩, show (⟨#[38, 110, 98, 115, 112, 59]⟩ : ByteArray) = ⟨Rp.nbsp.toArray⟩ from rfl, lit, wrap_i i (by omega), show wrap64 (((i + 1 : Nat) : Int) + 1) = ((i + 2 : Nat) : Int) by unfold wrap64; omega, List.tail_cons]
          exact put Rp.nbsp 2 (k + 2) (by omega) (by omega) (by decide) (by omega)
        · have e160 : ((b'.toNat : Int) == 160) = false := by
            refine beq_eq_false_iff_ne.2 fun e => c3 ?_
            apply UInt8.toNat_inj.1
            show b'.toNat = 160
            omega
          rw [e160, if_neg (fun h => c3 (by simpa using h.2)), ← hb1']
          exact rest
      · rw [if_neg (by omega), if_neg (fun h => by
          rw [List.drop_eq_nil_of_le (by rw [Array.length_toList]; exact Nat.le_of_not_lt hl)] at h
          simp at h)]
        exact rest
    · rw [if_neg (fun e => c2 ((nat_of 194 (by decide) 194 rfl).1 e)), if_neg (fun h => c2 h.1)]
      exact rest

theorem ra_some (s old new : ByteArray) (hs : s.size ≤ 1000000) (ho : 1 ≤ old.size) (hn : new.size ≤ 100) (hne : (old.data.toList == new.data.toList) = false) : strings_ReplaceAll.f s old new = some ⟨(Rp.RA old.data.toList new.data.toList s.data.toList).toArray⟩ := by
  unfold strings_ReplaceAll.f
  rw [if_pos ⟨hs, ho, hn⟩, Rp.ra_of _ _ _ hne]

theorem esc_prog (s : ByteArray) (hs : s.size ≤ 200) (attr : Bool) : entity_Escape.f s attr = some ⟨(Rp.esc attr s.size s.data.toList).toArray⟩ := by
  have hl : s.data.toList.length = s.size := Array.length_toList
  obtain ⟨l1, e1⟩ : ∃ l1, Rp.RA [38] Rp.amp s.data.toList = l1 := ⟨_, rfl⟩
  have n1 : l1.length ≤ 1000 := by
    have := Rp.ra_len 38 [] Rp.amp (by decide) s.size s.data.toList (by omega)
    rw [e1, hl, show Rp.amp.length = 5 from rfl] at this
    omega
  obtain ⟨l2, e2⟩ : ∃ l2, Rp.RA [194, 160] Rp.nbsp l1 = l2 := ⟨_, rfl⟩
  have n2 : l2.length ≤ 6000 := by
    have := Rp.ra_len 194 [160] Rp.nbsp (by decide) l1.length l1 (Nat.le_refl _)
    rw [e2, show Rp.nbsp.length = 6 from rfl] at this
    omega
  have r1 : strings_ReplaceAll.f s ⟨#[38]⟩ ⟨#[38, 97, 109, 112, 59]⟩ = some ⟨l1.toArray⟩ := by
    rw [ra_some s _ _ (by omega) (by decide) (by decide) (by decide), ← e1]
    rfl
  have r2 : strings_ReplaceAll.f ⟨l1.toArray⟩ ⟨#[194, 160]⟩ ⟨#[38, 110, 98, 115, 112, 59]⟩ = some ⟨l2.toArray⟩ := by
    rw [ra_some _ _ _ (by rw [out_size]; omega) (by decide) (by decide) (by decide), ← e2]
    rfl
  have hf := Rp.esc_eq attr s.size s.data.toList (by omega)
  rw [e1, e2] at hf
  unfold entity_Escape.f
  rw [r1, Option.bind_some, r2, Option.bind_some, ← hf]
  cases attr
  · rw [if_neg Bool.false_ne_true]
    obtain ⟨l3, e3⟩ : ∃ l3, Rp.RA [60] Rp.lt l2 = l3 := ⟨_, rfl⟩
    have n3 : l3.length ≤ 24000 := by
      have := Rp.ra_len 60 [] Rp.lt (by decide) l2.length l2 (Nat.le_refl _)
      rw [e3, show Rp.lt.length = 4 from rfl] at this
      omega
    have r3 : strings_ReplaceAll.f ⟨l2.toArray⟩ ⟨#[60]⟩ ⟨#[38, 108, 116, 59]⟩ = some ⟨l3.toArray⟩ := by
      rw [ra_some _ _ _ (by rw [out_size]; omega) (by decide) (by decide) (by decide), ← e3]
      rfl
    rw [r3, Option.bind_some, ra_some _ _ _ (by rw [out_size]; omega) (by decide) (by decide) (by decide), Option.bind_some]
    show _ = some (⟨(Rp.RA [62] Rp.gt (Rp.RA [60] Rp.lt l2)).toArray⟩ : ByteArray)
    rw [e3]
    rfl
  · rw [if_pos rfl, ra_some _ _ _ (by rw [out_size]; omega) (by decide) (by decide) (by decide), Option.bind_some]
    rfl

theorem esc_both (s : ByteArray) (hs : s.size ≤ 200) (attr : Bool) : clerestoryref1_EntityEscape.f 9000 s attr = entity_Escape.f s attr := by
  rw [esc_prog s hs attr]
  exact esc_ref s hs attr s.size 0 [] (by omega) (by omega) (by simp) 9000 (by omega)

theorem EntityReads : clerestorylaw1_EntityReads.Pure := by
  intro s attr _
  refine ⟨9000, ?_⟩
  obtain ⟨t, ht, hs⟩ := some_cut s
  obtain ⟨R0, p0, q0⟩ := read_eq t hs false
  obtain ⟨R1, p1, q1⟩ := read_eq t hs true
  have hp := esc_prog t hs attr
  have hq := esc_both t hs attr
  rw [hp] at hq
  unfold clerestorylaw1_EntityReads.f
  rw [ht, Option.bind_some, begunE _ (by decide), Option.bind_some, if_pos rfl]
  unfold entity_Text.f entity_Value.f
  rw [p0, Option.bind_some, Option.bind_some, q0, Option.bind_some, if_pos rfl, p1, Option.bind_some, Option.bind_some, q1, Option.bind_some, if_pos rfl, hp, Option.bind_some, hq, Option.bind_some]
  simp
end Go.Proofs.YtjlgbakdnenjhaaDoor.Pure
