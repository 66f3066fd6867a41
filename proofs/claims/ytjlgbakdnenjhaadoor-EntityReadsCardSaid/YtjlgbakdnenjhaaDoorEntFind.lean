/- The plain law of finding a reference: a reference is found as the reference finds it. -/
import Derived.Test.YtjlgbakdnenjhaaDoorEntNamed
import Derived.Test.YtjlgbakdnenjhaaDoorXEn5
namespace Go.Proofs.YtjlgbakdnenjhaaDoor.Pure
open Go Go.RowKit Go.Proofs.YtjlgbakdnenjhaaDoorW.PrintWords Go.Proofs.YtjlgbakdnenjhaaDoorW.PrintLast Go.Proofs.YtjlgbakdnenjhaaDoorW.PrintMore Go.Proofs.YtjlgbakdnenjhaaDoor.XEn Go.Proofs.YtjlgbakdnenjhaaDoor.Ch Go.Proofs.YtjlgbakdnenjhaaDoor.LE Go.Proofs.YtjlgbakdnenjhaaDoor.L
set_option maxRecDepth 100000

def wordB (b : Int) : Bool := (entity_word.f b).getD false
theorem word_eq (b : Int) (h : 0 ≤ b ∧ b ≤ 255) : entity_word.f b = some (wordB b) := by
  have h1 := byte_of (P := fun b => entity_word.f b = (if b = 61 then some true else clerestoryref1_letterOrDigit.f b)) word_all b h
  have h2 := byte_of (P := fun b => (clerestoryref1_letterOrDigit.f b).isSome = true) lod_all b h
  unfold wordB
  rw [h1]
  split
  · rfl
  · obtain ⟨v, hv⟩ := Option.isSome_iff_exists.1 h2
    rw [hv]
    rfl
theorem lod_eq (b : Int) (h : 0 ≤ b ∧ b ≤ 255) (h61 : ¬ b = 61) : clerestoryref1_letterOrDigit.f b = some (wordB b) := by
  have h1 := byte_of (P := fun b => entity_word.f b = (if b = 61 then some true else clerestoryref1_letterOrDigit.f b)) word_all b h
  rw [if_neg h61] at h1
  rw [← h1, word_eq b h]
theorem word61 : wordB 61 = true := by decide +kernel

/-- What stands behind a name may take it back. -/
def fin (s : ByteArray) (attr : Bool) (tm : ByteArray × Int) : ByteArray × Int :=
  if attr = true ∧ tm.2 > 0 ∧ ¬ bt s (tm.2 - 1) = 59 ∧ tm.2 < (s.size : Int) ∧ wordB (bt s tm.2) = true then (⟨#[]⟩, 0) else tm

def row (x : S79) : Row := (x.f0.toList, x.f1, x.f2)
theorem rows_map : rowsN = tabN.map row := rfl

theorem tab_get (i : Nat) (h : i < tabN.length) : rd_T79 tabN (i : Int) = tabN[i] := by
  simp [rd_T79, List.getD_eq_getElem?_getD, List.getElem?_eq_getElem h]

theorem tail_list (s : ByteArray) : (s.extract 1 s.size).data.toList = tl s := by
  rw [Lib.extract_to_end]
  rfl

theorem tab_len : tabN.length ≤ 1000 := by decide +kernel
attribute [local irreducible] tabN

theorem named_loop (s : ByteArray) (hs : s.size ≤ 100000) (h1 : 1 ≤ s.size) (attr : Bool) (d : Nat) : ∀ (i : Nat) (tm : ByteArray × Int), tabN.length - i = d → i ≤ tabN.length → 0 ≤ tm.2 → tm.2 ≤ (s.size : Int) → ∀ k, d + 1 < k →
    entity_named.l0 k s attr tm.1 tm.2 tabN (tabN.length : Int) (i : Int) = some (fin s attr (foldN s tm ((tabN.drop i).map row))) := by
  induction d with
  | zero =>
    intro i tm hd hi h0 hm k hk
    obtain ⟨k, rfl⟩ : ∃ q, k = q + 1 := ⟨k - 1, by omega⟩
    rw [List.drop_eq_nil_of_le (by omega), List.map_nil, foldN, entity_named.l0, if_neg (by omega)]
    unfold fin
    by_cases c1 : attr = true
    · rw [if_pos c1]
      by_cases c2 : tm.2 > 0
      · have w : wrap64 (tm.2 - 1) = tm.2 - 1 := by unfold wrap64; omega
        rw [if_pos c2, w, if_pos (by omega), if_pos (by omega)]
        by_cases c3 : bt s (tm.2 - 1) = 59
        · rw [if_pos c3, if_neg (fun h => h.2.2.1 c3)]
        · rw [if_neg c3]
          by_cases c4 : tm.2 < (s.size : Int)
          · rw [if_pos c4, if_pos (by omega), word_eq _ (bt_range _ _), Option.bind_some]
            by_cases c5 : wordB (bt s tm.2) = true
            · rw [if_pos c5, if_pos ⟨c1, c2, c3, c4, c5⟩]
            · rw [if_neg c5, if_neg (fun h => c5 h.2.2.2.2)]
          · rw [if_neg c4, if_neg (fun h => c4 h.2.2.2.1)]
      · rw [if_neg c2, if_neg (fun h => c2 h.2.1)]
    · rw [if_neg c1, if_neg (fun h => c1 h.1)]
  | succ d ih =>
    intro i tm hd hi h0 hm k hk
    obtain ⟨k, rfl⟩ : ∃ q, k = q + 1 := ⟨k - 1, by omega⟩
    have hlt : i < tabN.length := by omega
    have hlen := tab_len
    rw [List.drop_eq_getElem_cons hlt, List.map_cons, foldN, entity_named.l0, if_pos (by omega), if_pos (by omega), if_pos (by omega), if_pos (by omega), tab_get i hlt]
    have hx : row tabN[i] ∈ rowsN := by rw [rows_map]; exact List.mem_map.2 ⟨_, List.getElem_mem hlt, rfl⟩
    obtain ⟨f1, f2, f3, f4, f5, f6⟩ := row_facts _ hx
    have IH := fun tm => ih (i + 1) tm (by omega) (by omega)
    have hk' : d + 1 < k := by omega
    have hil : i ≤ 1000 := by omega
    clear ih hk hd hi hlen
    generalize tabN[i] = x at f1 f2 f3 f4 f5 f6 hx ⊢
    clear hlt
    have hsz : x.f0.size = x.f0.data.toList.length := by rw [Array.length_toList]; rfl
    have hrow : (row x).1 = x.f0.data.toList := Lib.toList_data _
    rw [prefix_eq, tail_list, Option.bind_some, wrap_i i (by omega)]
    rw [hrow] at f4 f5
    have w1 : wrap64 ((x.f0.size : Int) + 1) = ((x.f0.data.toList.length + 1 : Nat) : Int) := by rw [← hsz]; exact wrap_i _ (by omega)
    have w2 : wrap64 x.f1 = x.f1 := by
      have g1 : 14 ≤ x.f1 := f2
      have g2 : x.f1 ≤ 65535 := f3
      unfold wrap64; omega
    have hacc : acc s (row x) ↔ (tl s).take x.f0.data.toList.length = x.f0.data.toList ∧ (nx s x.f0.data.toList ≠ x.f0.data.toList.length + 1 ∨ x.f2 = true) := by
      unfold acc
      rw [hrow]
      rfl
    by_cases c1 : (tl s).take x.f0.data.toList.length = x.f0.data.toList
    · rw [if_pos (decide_eq_true c1), w1, semi_eq s hs, Option.bind_some, w2]
      have hnx : (if x.f0.data.toList.length + 1 < s.size ∧ bt s ((x.f0.data.toList.length + 1 : Nat) : Int) = 59 then ((x.f0.data.toList.length + 1 + 1 : Nat) : Int) else ((x.f0.data.toList.length + 1 : Nat) : Int)) = (nx s x.f0.data.toList : Int) := by
        unfold nx
        split <;> rfl
      rw [hnx, hrow]
      have hfit : nx s x.f0.data.toList ≤ s.size := by
        have hl := congrArg List.length c1
        rw [List.length_take, tl_len] at hl
        unfold nx
        split
        · rename_i hh; omega
        · omega
      have sg := sign_eq x.f1 (by have g1 : 14 ≤ x.f1 := f2; omega) (by have g2 : x.f1 ≤ 65535 := f3; omega)
      have take : ¬ (nx s x.f0.data.toList : Int) ≤ tm.2 → (nx s x.f0.data.toList ≠ x.f0.data.toList.length + 1 ∨ x.f2 = true) → (if acc s (row x) ∧ tm.2 < (nx s x.f0.data.toList : Int) then (signB (row x).2.1, (nx s x.f0.data.toList : Int)) else tm) = (signB x.f1, (nx s x.f0.data.toList : Int)) := fun h h' => by
        rw [if_pos ⟨hacc.2 ⟨c1, h'⟩, by omega⟩]
        rfl
      have skip : (nx s x.f0.data.toList : Int) ≤ tm.2 → (if acc s (row x) ∧ tm.2 < (nx s x.f0.data.toList : Int) then (signB (row x).2.1, (nx s x.f0.data.toList : Int)) else tm) = tm := fun h => if_neg (fun h' => by have := h'.2; omega)
      by_cases c2 : (nx s x.f0.data.toList : Int) = ((x.f0.data.toList.length + 1 : Nat) : Int)
      · rw [if_pos c2]
        by_cases c3 : x.f2 = true
        · rw [if_pos c3]
          by_cases c4 : (nx s x.f0.data.toList : Int) ≤ tm.2
          · rw [if_pos c4, skip c4]
            exact IH tm h0 hm k hk'
          · rw [if_neg c4, sg, Option.bind_some, take c4 (.inr c3)]
            exact IH (_, _) (Int.natCast_nonneg _) (Int.ofNat_le.2 hfit) k hk'
        · rw [if_neg c3, if_neg (fun h => (hacc.1 h.1).2.elim (fun h => h (Int.ofNat_inj.1 c2)) (fun h => c3 h))]
          exact IH tm h0 hm k hk'
      · rw [if_neg c2]
        by_cases c4 : (nx s x.f0.data.toList : Int) ≤ tm.2
        · rw [if_pos c4, skip c4]
          exact IH tm h0 hm k hk'
        · rw [if_neg c4, sg, Option.bind_some, take c4 (.inl (fun h => c2 (by rw [h])))]
          exact IH (_, _) (Int.natCast_nonneg _) (Int.ofNat_le.2 hfit) k hk'
    · rw [if_neg (by simpa using c1), if_neg (fun h => c1 (hacc.1 h.1).1)]
      exact IH tm h0 hm k hk'

theorem named_eq (s : ByteArray) (hs : s.size ≤ 100000) (h1 : 1 ≤ s.size) (attr : Bool) (k : Nat) (hk : 1100 < k) : entity_named.f k s attr = some (fin s attr (top s 10)) := by
  have hlen := tab_len
  unfold entity_named.f
  rw [tabN_eq, Option.bind_some]
  have := named_loop s hs h1 attr tabN.length 0 (⟨#[]⟩, 0) (by omega) (by omega) (Int.le_refl _) (by simp only; omega) k (by omega)
  rw [List.drop_zero, ← rows_map, fold_top] at this
  exact this

theorem bt_cut (s : ByteArray) (j : Nat) (h2 : 2 ≤ j) (hj : j ≤ s.size) : bt (s.extract 1 j) ((j - 2 : Nat) : Int) = bt s ((j - 1 : Nat) : Int) := by
  unfold bt
  have e : (s.extract 1 j).size = j - 1 := by simp only [ByteArray.size_extract]; omega
  rw [dif_pos (by simp only [Int.toNat_natCast]; omega), dif_pos (by simp only [Int.toNat_natCast]; omega)]
  simp only [Int.toNat_natCast]
  congr 1
  rw [ByteArray.getElem_extract]
  congr 2
  omega
theorem cut_list (s : ByteArray) (j : Nat) : (s.extract 1 j).data.toList = (tl s).take (j - 1) := by
  rw [ByteArray.data_extract, Array.toList_extract]
  unfold tl
  rw [List.extract_eq_take_drop]
theorem cut_list2 (s : ByteArray) (j : Nat) : ((s.extract 1 j).extract 0 (j - 2)).data.toList = (tl s).take (j - 2) := by
  rw [ByteArray.data_extract, Array.toList_extract, cut_list]
  rw [List.extract_eq_take_drop, List.drop_zero, List.take_take]
  congr 1
  omega

theorem sign_enc (v : Int) (h0 : 14 ≤ v) (h1 : v ≤ 65535) (k : Nat) (hk : 8 < k) : clerestoryref1_CharsEncode.f k [wrap32 v] = some (signB v) := by
  rw [show wrap32 v = v by unfold wrap32; omega, enc_one v (by omega) (by omega) k hk]
  unfold signB
  rw [if_neg (by omega)]

theorem ref_names (s : ByteArray) (hs : s.size ≤ 100000) (attr : Bool) : ∀ (j : Nat), j ≤ 10 → ∀ k, 5000 + 10 * j < k → clerestoryref1_EntityFind.l1 k s attr (j : Int) = some (fin s attr (top s j))
  | 0, _, k, hk => by
    obtain ⟨k, rfl⟩ : ∃ q, k = q + 1 := ⟨k - 1, by omega⟩
    rw [clerestoryref1_EntityFind.l1, if_neg (by omega)]
    unfold fin top
    rw [if_neg (fun h => by have := h.2.1; simp at this)]
  | 1, _, k, hk => by
    obtain ⟨k, rfl⟩ : ∃ q, k = q + 1 := ⟨k - 1, by omega⟩
    rw [clerestoryref1_EntityFind.l1, if_neg (by omega)]
    unfold fin top
    rw [if_neg (fun h => by have := h.2.1; simp at this)]
  | n + 2, hj, k, hk => by
    obtain ⟨k, rfl⟩ : ∃ q, k = q + 3 := ⟨k - 3, by omega⟩
    have ih := fun k => ref_names s hs attr (n + 1) (by omega) k
    have w1 : wrap64 (((n + 2 : Nat) : Int) - 1) = ((n + 1 : Nat) : Int) := by unfold wrap64; omega
    rw [clerestoryref1_EntityFind.l1, if_pos (by omega)]
    by_cases c0 : s.size < n + 2
    · rw [if_pos (by omega), w1, ih _ (by omega)]
      have : cand s (n + 2) = none := by unfold cand; rw [if_pos c0]
      simp only [top, this]
    rw [if_neg (by omega), if_pos (by omega), if_pos (by omega), Int.toNat_natCast]
    have e1 : (s.extract 1 (n + 2)).size = n + 1 := by simp only [ByteArray.size_extract]; omega
    have w2 : wrap64 (((n + 1 : Nat) : Int) - 1) = ((n : Nat) : Int) := by unfold wrap64; omega
    have hb := bt_cut s (n + 2) (by omega) (by omega)
    rw [show n + 2 - 2 = n by omega] at hb
    have hl1 := cut_list s (n + 2)
    have hl2 := cut_list2 s (n + 2)
    rw [show n + 2 - 2 = n by omega] at hl2
    rw [e1, w2, if_pos (show (0 : Int) ≤ (n : Int) by omega), if_pos (show (n : Int) < ((n + 1 : Nat) : Int) by omega), hb, Int.toNat_natCast]
    -- what is owed behind the test of the last byte
    have rest : ∀ (x : ByteArray) (wh : Bool), wh = decide (bt s ((n + 2 - 1 : Nat) : Int) = 59) → x.toList = (tl s).take (if wh = true then n else n + 1) → clerestoryref1_EntityFind.j7 (k + 2) s attr ((n + 2 : Nat) : Int) x wh = some (fin s attr (top s (n + 2))) := by
      intro x wh hwh hx
      have none_ : cand s (n + 2) = none → clerestoryref1_EntityFind.l1 k s attr (wrap64 (((n + 2 : Nat) : Int) - 1)) = some (fin s attr (top s (n + 2))) := fun h => by
        rw [w1, ih _ (by omega)]
        simp only [top, h]
      have hc : cand s (n + 2) = if (LE.look rowsN x.toList).1 < 0 ∨ wh = false ∧ (LE.look rowsN x.toList).2 = false then none else some ((LE.look rowsN x.toList).1, wh) := by
        unfold cand
        rw [if_neg c0, hx]
        simp only [← hwh]
        rfl
      rw [clerestoryref1_EntityFind.j7, rowOf_eq x _ (by omega), Option.bind_some]
      obtain ⟨l, hl⟩ : ∃ l, LE.look rowsN x.toList = l := ⟨_, rfl⟩
      have hmem := look_mem rowsN x.toList
      rw [hl] at hc hmem ⊢
      by_cases d1 : l.1 < 0
      · rw [if_pos d1, clerestoryref1_EntityFind.j8, if_pos rfl]
        exact none_ (by rw [hc, if_pos (.inl d1)])
      rw [if_neg d1]
      obtain ⟨f1, f2, f3, f4, f5, f6⟩ := row_facts _ (hmem (by omega))
      simp only at f2 f3
      have hbz := bt_range s ((n + 2 : Nat) : Int)
      have e59 : bt s (((n + 2 : Nat) : Int) - 1) = bt s ((n + 2 - 1 : Nat) : Int) := by
        congr 1
        omega
      by_cases d2 : wh = true
      · rw [if_pos d2, clerestoryref1_EntityFind.j8, if_neg (by decide), if_pos d2, sign_enc l.1 f2 f3 _ (by omega), Option.bind_some]
        rw [if_neg (fun h => h.elim d1 (fun h => by rw [d2] at h; cases h.1))] at hc
        simp only [top, hc]
        unfold fin
        rw [if_neg (fun h => h.2.2.1 (by rw [e59]; exact of_decide_eq_true (hwh.symm.trans d2)))]
      rw [if_neg d2]
      have d2' : wh = false := by cases wh <;> simp_all
      by_cases d3 : l.2 = true
      · rw [d3, Bool.not_true, clerestoryref1_EntityFind.j8, if_neg (by decide), if_neg d2, sign_enc l.1 f2 f3 _ (by omega), Option.bind_some]
        rw [if_neg (fun h => h.elim d1 (fun h => by rw [d3] at h; cases h.2))] at hc
        simp only [top, hc]
        have h59 : ¬ bt s (((n + 2 : Nat) : Int) - 1) = 59 := by rw [e59]; exact of_decide_eq_false (hwh.symm.trans d2')
        unfold fin
        simp only
        by_cases a1 : attr = true
        · rw [if_pos a1]
          by_cases a2 : ((n + 2 : Nat) : Int) < (s.size : Int)
          · rw [if_pos a2, if_pos (by omega)]
            by_cases a3 : bt s ((n + 2 : Nat) : Int) = 61
            · rw [if_pos a3, if_pos ⟨a1, by omega, h59, a2, by rw [a3]; exact word61⟩]
            · rw [if_neg a3, lod_eq _ hbz a3, Option.bind_some]
              by_cases a4 : wordB (bt s ((n + 2 : Nat) : Int)) = true
              · rw [if_pos a4, if_pos ⟨a1, by omega, h59, a2, a4⟩]
              · rw [if_neg a4, if_neg (fun h => a4 h.2.2.2.2)]
          · rw [if_neg a2, if_neg (fun h => a2 h.2.2.2.1)]
        · rw [if_neg a1, if_neg (fun h => a1 h.1)]
      · have d3' : l.2 = false := by cases h : l.2 <;> simp_all
        rw [d3', Bool.not_false, clerestoryref1_EntityFind.j8, if_pos rfl]
        exact none_ (by rw [hc, if_pos (.inr ⟨d2', d3'⟩)])
    by_cases c : bt s ((n + 2 - 1 : Nat) : Int) = 59
    · rw [if_pos c, if_pos (show (n : Int) ≤ ((n + 1 : Nat) : Int) by omega)]
      have hd : (bt s ((n + 2 - 1 : Nat) : Int) == 59) = true := by rw [c]; rfl
      rw [hd]
      exact rest _ true (decide_eq_true c).symm (by rw [Lib.toList_data, hl2, if_pos rfl])
    · rw [if_neg c]
      have hd : (bt s ((n + 2 - 1 : Nat) : Int) == 59) = false := beq_eq_false_iff_ne.2 c
      rw [hd]
      exact rest _ false (decide_eq_false c).symm (by rw [Lib.toList_data, hl1, if_neg (by decide)]; rfl)

theorem both0 : Both 0 0 := ⟨by decide, by decide, by decide, by decide, .inl rfl⟩

theorem top_short (s : ByteArray) (h : s.size < 2) : top s 10 = (⟨#[]⟩, 0) := by
  rcases top_prop s 10 with ⟨h1, _⟩ | ⟨j, v, wh, h1, _, h3, _⟩
  · exact h1
  · unfold cand at h3
    rw [if_pos (by omega)] at h3
    cases h3

theorem fb_fin (s : ByteArray) (attr : Bool) : FB s (fin s attr (top s 10)) := by
  unfold fin
  split
  · exact fb_nil s
  · rcases top_prop s 10 with ⟨h1, _⟩ | ⟨j, v, wh, h1, h2, h3, h4, _⟩
    · rw [h1]; exact fb_nil s
    · rw [h4]
      refine fb_sign s v _ (by omega) ?_
      unfold cand at h3
      by_cases c : s.size < j
      · rw [if_pos c] at h3; cases h3
      · omega

theorem find_both (s : ByteArray) (hs : s.size ≤ 1000) (attr : Bool) (k : Nat) (hk : 8000 < k) : ∃ r, FB s r ∧ entity_Find.f k s attr = some r ∧ clerestoryref1_EntityFind.f k s attr = some r := by
  obtain ⟨k, rfl⟩ : ∃ q, k = q + 4 := ⟨k - 4, by omega⟩
  unfold entity_Find.f clerestoryref1_EntityFind.f
  by_cases z : s.size = 0
  · have e : s.toList = ([] : List UInt8) := by
      rw [Lib.toList_data]
      exact List.length_eq_zero_iff.1 (by rw [Array.length_toList]; exact z)
    refine ⟨(⟨#[]⟩, 0), fb_nil s, ?_, ?_⟩
    · rw [if_pos e, entity_Find.j0, if_pos rfl]
    · rw [if_pos (by omega), clerestoryref1_EntityFind.j0, if_pos rfl]
  have e : ¬ s.toList = ([] : List UInt8) := fun e => z (by
    rw [Lib.toList_data] at e
    have := congrArg List.length e
    rw [Array.length_toList] at this
    exact this)
  rw [if_neg e, if_pos (by omega)]
  by_cases c0 : ¬ bt s 0 = 38
  · refine ⟨(⟨#[]⟩, 0), fb_nil s, ?_, ?_⟩
    · rw [show (bt s 0 != 38) = true from bne_iff_ne.2 c0, entity_Find.j0, if_pos rfl]
    · by_cases c1 : s.size < 2
      · rw [if_pos (by omega), clerestoryref1_EntityFind.j0, if_pos rfl]
      · rw [if_neg (by omega), if_pos (by omega), show (bt s 0 != 38) = true from bne_iff_ne.2 c0, clerestoryref1_EntityFind.j0, if_pos rfl]
  have c0 : bt s 0 = 38 := Classical.not_not.1 c0
  have hne : (bt s 0 != 38) = false := by rw [c0]; rfl
  rw [hne, entity_Find.j0, if_neg (by decide)]
  by_cases c1 : s.size < 2
  · refine ⟨(⟨#[]⟩, 0), fb_nil s, ?_, ?_⟩
    · rw [if_neg (by omega), entity_Find.j1, if_neg (by decide), named_eq s (by omega) (by omega) attr _ (by omega), top_short s c1, Option.bind_some]
      unfold fin
      rw [if_neg (fun h => by have := h.2.1; simp at this)]
    · rw [if_pos (by omega), clerestoryref1_EntityFind.j0, if_pos rfl]
  rw [if_pos (by omega), if_pos (by omega), if_neg (by omega), if_pos (by omega), clerestoryref1_EntityFind.j0, if_neg (by decide), if_pos (by omega)]
  by_cases c2 : bt s 1 = 35
  · rw [if_pos c2, show (bt s 1 == 35) = true from beq_iff_eq.2 c2, entity_Find.j1, if_pos rfl]
    unfold entity_number.f
    have n16 := num_both s (by omega) 16 (.inr rfl) 3 (s.size - 3) 3 0 0 rfl
    have n10 := num_both s (by omega) 10 (.inl rfl) 2 (s.size - 2) 2 0 0 rfl (by omega) both0
    obtain ⟨r10, b10, p10, q10⟩ := n10
    replace p10 : ∀ k, 2 * (s.size - 2) + 40 < k → entity_number.l0 k s 10 2 0 2 = some r10 := p10
    replace q10 : ∀ k, 2 * (s.size - 2) + 40 < k → clerestoryref1_EntityFind.l0 k s 10 2 2 0 = some r10 := q10
    by_cases c3 : s.size > 2
    · obtain ⟨r16, b16, p16, q16⟩ := n16 (by omega) both0
      replace p16 : ∀ k, 2 * (s.size - 3) + 40 < k → entity_number.l0 k s 16 3 0 3 = some r16 := p16
      replace q16 : ∀ k, 2 * (s.size - 3) + 40 < k → clerestoryref1_EntityFind.l0 k s 16 3 3 0 = some r16 := q16
      have hx := byte_of (P := fun b => (Go.bits .or .u8 b 32 == 120) = (b == 120 || b == 88)) x_all _ (bt_range s 2)
      rw [if_pos (by omega), if_pos (by omega), if_pos (by omega), if_pos (by omega), hx]
      by_cases x1 : bt s 2 = 120
      · refine ⟨r16, b16, ?_, ?_⟩
        · rw [x1]
          simp only [beq_self_eq_true, Bool.true_or]
          rw [entity_number.j0, if_pos rfl, entity_number.j1, p16 _ (by omega), Option.bind_some]
        · rw [if_pos x1, clerestoryref1_EntityFind.j1, if_pos rfl, clerestoryref1_EntityFind.j2, q16 _ (by omega)]
      · rw [if_neg x1, show (bt s 2 == 120) = false from beq_eq_false_iff_ne.2 x1, Bool.false_or]
        by_cases x2 : bt s 2 = 88
        · refine ⟨r16, b16, ?_, ?_⟩
          · rw [show (bt s 2 == 88) = true from beq_iff_eq.2 x2, entity_number.j0, if_pos rfl, entity_number.j1, p16 _ (by omega), Option.bind_some]
          · rw [show (bt s 2 == 88) = true from beq_iff_eq.2 x2, clerestoryref1_EntityFind.j1, if_pos rfl, clerestoryref1_EntityFind.j2, q16 _ (by omega)]
        · refine ⟨r10, b10, ?_, ?_⟩
          · rw [show (bt s 2 == 88) = false from beq_eq_false_iff_ne.2 x2, entity_number.j0, if_neg (by decide), entity_number.j1, p10 _ (by omega), Option.bind_some]
          · rw [show (bt s 2 == 88) = false from beq_eq_false_iff_ne.2 x2, clerestoryref1_EntityFind.j1, if_neg (by decide), clerestoryref1_EntityFind.j2, q10 _ (by omega)]
    · rw [if_neg (by omega), if_neg (by omega)]
      refine ⟨r10, b10, ?_, ?_⟩
      · rw [entity_number.j0, if_neg (by decide), entity_number.j1, p10 _ (by omega), Option.bind_some]
      · rw [clerestoryref1_EntityFind.j1, if_neg (by decide), clerestoryref1_EntityFind.j2, q10 _ (by omega)]
  · refine ⟨fin s attr (top s 10), fb_fin s attr, ?_, ?_⟩
    · rw [show (bt s 1 == 35) = false from beq_eq_false_iff_ne.2 c2, entity_Find.j1, if_neg (by decide), named_eq s (by omega) (by omega) attr _ (by omega), Option.bind_some]
    · rw [if_neg c2]
      exact ref_names s (by omega) attr 10 (by omega) _ (by omega)

theorem begun200 : clerestorylaw1_entityBegun.f 100 = some true := by decide +kernel
theorem begunE (k : Nat) (hk : 100 ≤ k) : clerestorylaw1_entityBegun.f k = some true := by
  have := more_rounds clerestorylaw1_entityBegun.mono 100 (k - 100) _ begun200
  rw [show 100 + (k - 100) = k by omega] at this
  exact this

theorem some_cut (s : ByteArray) : ∃ t : ByteArray, clerestorylaw1_some.f s 200 = some t ∧ t.size ≤ 200 := by
  unfold clerestorylaw1_some.f
  have h : 0 ≤ mn (s.size : Int) 200 ∧ mn (s.size : Int) 200 ≤ (s.size : Int) ∧ mn (s.size : Int) 200 ≤ 200 := by
    unfold mn
    split <;> omega
  rw [if_pos h.1, if_pos h.2.1]
  refine ⟨_, rfl, ?_⟩
  simp only [ByteArray.size_extract]
  omega

end Go.Proofs.YtjlgbakdnenjhaaDoor.Pure
