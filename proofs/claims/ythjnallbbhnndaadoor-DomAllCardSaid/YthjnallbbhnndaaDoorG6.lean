/- Texts of one proof, put together. -/
import Derived.Test.YthjnallbbhnndaaDoorG5
import Derived.Test.YthjnallbbhnndaaDoorRows
import Derived.Test.YthjnallbbhnndaaDoorChecked
import Derived.Lib.LaidIn
import Derived.Lib.LaidU8T
import Derived.Deep.DeepHandedRow
import Derived.Deep.DeepWitnessRowRef
namespace Go.Proofs.YthjnallbbhnndaaDoor.XDe
open Go.Proofs.YthjnallbbhnndaaDoor.Short Go.RowKit Go.Proofs.YthjnallbbhnndaaDoorW.PrintWords Go.Proofs.YthjnallbbhnndaaDoorW.PrintLast Go.Proofs.YthjnallbbhnndaaDoorW.PrintMore
attribute [local go_sem] q16 q14 q1g q1f q0s q0r q15 q13   -- for this text's walks alone
set_option linter.unusedVariables false
set_option linter.unusedSimpArgs false
theorem there_blk {w : World} {g : Nat} {cs : Array Value} {t : TypeId} (h : w.heap[g]? = some (.cells cs t (0, 0))) : w.there g 0 cs.size := fun j hj => by
  rw [Nat.zero_add]
  refine ⟨?_, q0f h j⟩
  rw [q09 h j, Array.getElem?_eq_getElem hj]
  rfl
theorem there_len {w : World} {g n : Nat} {cs : Array Value} {t : TypeId} (h : w.heap[g]? = some (.cells cs t (0, 0))) (hn : cs.size = n) : w.there g 0 n := hn ▸ there_blk h
theorem ed_lay (w : World) (g : Nat) (vs : List Value) : ∀ (n : Nat) (wx : World) (cs : Array Value) (t : TypeId), Below w.heap.size w wx → w.heap.size ≤ g → wx.heap[g]? = some (.cells cs t (0, 0)) →
    ∃ cs' : Array Value, Below w.heap.size w (wx.setCells g n vs) ∧ (wx.setCells g n vs).heap[g]? = some (.cells cs' t (0, 0)) ∧ cs'.size = cs.size ∧ ∀ m : Nat, m < cs.size → cs'[m]? = if n ≤ m ∧ m - n < vs.length then vs[m - n]? else cs[m]? := by
  induction vs with
  | nil => exact fun n wx cs t hb _ h => ⟨cs, hb, h, rfl, fun m _ => by rw [if_neg (by simp)]⟩
  | cons v vs ih =>
    intro n wx cs t hb hg h
    obtain ⟨cs', b1, b2, b3, b4⟩ := ih (n + 1) (wx.setCell ⟨g, n, none⟩ v) (cs.setIfInBounds n v) t (q08 hb hg) hg (q0h h n v)
    rw [Array.size_setIfInBounds] at b3
    refine ⟨cs', b1, b2, b3, fun m hm => ?_⟩
    rw [b4 m (by rw [Array.size_setIfInBounds]; exact hm), Array.getElem?_setIfInBounds]
    by_cases e : n = m
    · subst e; rw [if_neg (fun x => Nat.not_succ_le_self _ x.1), if_pos rfl, if_pos hm, if_pos ⟨Nat.le_refl _, by simp⟩]; simp
    · by_cases e2 : n ≤ m
      · have : m - n = (m - (n + 1)) + 1 := by omega
        by_cases e3 : m - (n + 1) < vs.length
        · rw [if_pos ⟨by omega, e3⟩, if_pos ⟨e2, by simp only [List.length_cons]; omega⟩, this]; rfl
        · rw [if_neg (fun x => e3 x.2), if_neg e, if_neg (fun x => e3 (by have := x.2; simp only [List.length_cons] at this; omega))]
      · rw [if_neg (fun x => e2 (by omega)), if_neg e, if_neg (fun x => e2 x.1)]
theorem ed_twelve {w wx : World} {g t : Nat} {cs : Array Value} (vs : List Value) (hb : Below w.heap.size w wx) (hg : w.heap.size ≤ g) (h : wx.heap[g]? = some (.cells cs t (0, 0))) (hv : vs.length = cs.size) :
    Below w.heap.size w (wx.setCells g 0 vs) ∧ (wx.setCells g 0 vs).heap[g]? = some (.cells ⟨vs⟩ t (0, 0)) := by
  obtain ⟨cs', b1, b2, b3, b4⟩ := ed_lay w g vs 0 wx cs t hb hg h
  refine ⟨b1, ?_⟩
  rw [b2]
  congr 2
  apply Array.ext_getElem?
  intro m
  by_cases hm : m < cs.size
  · rw [b4 m hm, if_pos ⟨Nat.zero_le _, by omega⟩]; simp
  · rw [Array.getElem?_eq_none (by omega), Array.getElem?_eq_none (by simp; omega)]
def edAllL (k : Nat) (q : Bool) : Nat → Int → List S87 → List S43 → Int → Option (List S43 × Bool × Int × Int)
  | 0, _, _, _, _ => none
  | j + 1, i, l1, ns, m => if i < (l1.length : Int) then (if 0 ≤ i then (q1i k ns q m (q06 l1 i).f0 (q06 l1 i).f1 (q06 l1 i).f2 (q06 l1 i).f3 (q06 l1 i).f4 (q06 l1 i).f5 (q06 l1 i).f6.f0 (q06 l1 i).f6.f1 (q06 l1 i).f6.f2 (q06 l1 i).f6.f3 (q06 l1 i).f6.f4 (q06 l1 i).f6.f5).bind fun p => if p.2.2 ≠ 0 then some ([], false, i, p.2.2) else edAllL k q j (wrap64 (i + 1)) l1 p.1 p.2.1 else none) else some (ns, q, 0, 0)
def dom_All.f (k : Nat) (l0 : List S43) (q : Bool) (l1 : List S87) : Option (List S43 × Bool × Int × Int) :=
  (dom_Check.f k l0 q).bind fun r => if r ≠ 0 then some ([], false, 0, r) else if 40 < l1.length then some ([], false, 0, 2) else if 0 < l0.length ∧ ownFits l0 = true then edAllL k q k 0 l1 l0 0 else none
set_option maxHeartbeats 16000000 in
set_option maxRecDepth 100000 in
theorem dom_All.calls (k : Nat) (A0 : Option Addr) (c0 : Nat) (l0 : List S43) (q : Bool) (A1 : Option Addr) (c1 : Nat) (l1 : List S87) (r1 : List S43) (r2 : Bool) (r3 r4 : Int) (w : World) (hr0 : Kd.C k43 w A0 l0.length l0) (hc0 : l0.length ≤ c0) (hr1 : Kd.C k87 w A1 l1.length l1) (hc1 : l1.length ≤ c1) (h : dom_All.f k l0 q l1 = some (r1, r2, r3, r4)) :
    Calls Tryd.prog 57 #[.agg #[.slice A0 l0.length c0, .bool q], .slice A1 l1.length c1] w fun e w' => ∃ v0_ : Value, e = .returned (.tuple #[.agg #[v0_, .bool r2], .int .i64 r3, .int .i64 r4]) ∧ Kd.S k43 43 w' w.heap.size (fun _ => True) v0_ r1 ∧ Below w.heap.size w w' := by
  have hu24 := Tryd.underlying24
  have hu87 := Tryd.underlying87
  have hu147 := Tryd.underlying147
  have hu54 := Tryd.underlying54
  have HC := Aside0.mk hr0
  have HL := Aside0.mk hc0
  have HC1 := Aside0.mk hr1
  have HL1 := Aside0.mk hc1
  clear hr0 hc0 hr1 hc1
  unfold dom_All.f at h
  obtain ⟨r, hr, h⟩ := Option.bind_eq_some_iff.1 h
  have HE := Aside0.mk hr
  clear hr
  go_enter Tryd.func57, Tryd.ntmps57
  go_upto_region 1 with (first | ((with_reducible refine q07 (N := 2) rfl ?_); refine box1 rfl (N := 2) rfl (cs := #[.slice A0 l0.length c0, .bool q]) (t := 24) zh ?_; intro gd wd DK GD DS) | ((with_reducible refine q07 (N := 4) rfl ?_); refine box1 rfl (N := 4) rfl (cs := #[.slice none 0 0, .bool false]) (t := 24) zh ?_; intro gr wr RK GS RS))
  have HB := Aside0.mk (q01 DS.out RS.out)
  have GR := Aside0.mk (show w.heap.size ≤ gr from Nat.le_trans (Below.size DS.out) GS.out)
  have n_DK := Aside0.mk (q02 DK.out RS.out)
  clear DK DS RS GS GD
  have DK := n_DK
  clear n_DK
  obtain ⟨hd0, hd1, -, -⟩ := bk2 DK.out
  obtain ⟨hr0, hr1, hrf0, hrf1⟩ := bk2 RK.out
  go_upto_region 2 with (go_at_call 52; (with_reducible refine (dom_Check.calls k A0 c0 l0 q r _ (Kd.C_below HC.out HB.out) HL.out HE.out).mono ?_); rintro e w7 ⟨rfl, hbl⟩; have n_HB := Aside0.mk (q01 HB.out hbl); have n_DK := Aside0.mk (q02 DK.out hbl); have n_RK := Aside0.mk (q02 RK.out hbl); clear hd0 hd1 hr0 hr1 hrf0 hrf1; clear HB DK RK hbl; have HB := n_HB; have DK := n_DK; have RK := n_RK; clear n_HB n_DK n_RK; obtain ⟨hd0, hd1, -, -⟩ := bk2 DK.out; obtain ⟨hr0, hr1, hrf0, hrf1⟩ := bk2 RK.out)
  by_cases z : r ≠ 0
  · have h2 := (if_pos z).symm.trans h
    clear h
    simp only [Option.some.injEq, Prod.mk.injEq] at h2
    obtain ⟨rfl, rfl, rfl, rfl⟩ := h2
    have z1 : (r != 0) = true := bne_iff_ne.mpr z
    have z2 : (r == 0) = false := beq_eq_false_iff_ne.mpr z
    clear z
    go_wp2
    refine bodyPost_ret (q0y rfl _ _ gr 24 #[.slice none 0 0, .bool false] (0, 0) _ rfl (q0h (q0h RK.out 0 _) 1 _) Tryd.underlying24 rfl (by kernel_rfl)) rfl ?_
    exact ⟨_, rfl, Kd.S_nil _ _ _ _ _, q08 (q08 HB.out GR.out) GR.out⟩
  · have h2 := (if_neg z).symm.trans h
    clear h
    obtain rfl : r = 0 := Classical.not_not.1 z
    clear z
    by_cases c40 : 40 < l1.length
    · rw [if_pos c40] at h2
      have cb : decide ((l1.length : Int) > 40) = true := decide_eq_true (by omega)
      clear c40
      simp only [Option.some.injEq, Prod.mk.injEq] at h2
      obtain ⟨rfl, rfl, rfl, rfl⟩ := h2
      go_wp2
      refine bodyPost_ret (q0y rfl _ _ gr 24 #[.slice none 0 0, .bool false] (0, 0) _ rfl (q0h (q0h RK.out 0 _) 1 _) Tryd.underlying24 rfl (by kernel_rfl)) rfl ?_
      exact ⟨_, rfl, Kd.S_nil _ _ _ _ _, q08 (q08 HB.out GR.out) GR.out⟩
    · rw [if_neg c40] at h2
      have cb : decide ((l1.length : Int) > 40) = false := decide_eq_false (by omega)
      clear c40
      refine iGp h2 ?_
      clear h2
      intro ⟨hp, hf⟩ h2
      have HP := Aside0.mk hp
      have HF := Aside0.mk (ownFits_of hf)
      clear hp hf
      have H2 := Aside0.mk h2
      clear h2
      go_upto_region 7 with (first | (go_at_call 104; (with_reducible refine (ed_own A0 c0 l0 q _ (Kd.C_below HC.out HB.out) HL.out HF.out.1 HF.out.2).mono ?_); rintro e w8 ⟨v8, rfl, hs8, hbl⟩; obtain ⟨b8, cap8, e8_, -, -, -⟩ := Kd.R_form (Kd.S_R hs8) HP.out; subst e8_; have HS8 := Aside0.mk (show Kd.S k43 43 w8 w7.heap.size (fun _ => True) (.slice (some ⟨b8, 0, none⟩) l0.length cap8) l0 from hs8); have HW := Aside0.mk HB.out; have HK := Aside0.mk RK.out; have n_HB := Aside0.mk (show Below w7.heap.size w7 w8 from hbl); clear hd0 hd1 hr0 hr1 hrf0 hrf1; clear HB DK RK hbl hs8; have HB := n_HB; clear n_HB) | ((with_reducible refine q07 (N := 28) rfl ?_); refine box1 rfl (N := 28) rfl (cs := #[.slice (some ⟨b8, 0, none⟩) l0.length cap8, .bool q, .int .i64 0]) (t := 147) zh ?_; intro g w9 GK GG GS; have HI := Aside0.mk (IsEd.start (w0 := w7) HS8.out GS.out GK.out (Nat.le_trans (Below.size HB.out) GG.out) GG.out); have GN := Aside0.mk (show g ≠ gr from fun e_ => by have h1_ := q0a HK.out; have h2_ := Below.size HB.out; have h3_ := GG.out; omega); have n_HB := Aside0.mk (q01 HB.out GS.out); clear HB GK GS GG HS8; have HB := n_HB; clear n_HB))
      have HC7 := Aside0.mk (Kd.C_below HC1.out HW.out)
      have GL := Aside0.mk (q0a HK.out)
      clear HC HL HC1
      go_wp2
      go_loopg [31] k (fun kq v31 w' => ∃ (i : Int) (ns : List S43) (m : Int), v31 = .int .i64 i ∧ Aside0 (edAllL k q kq i l1 ns m = some (r1, r2, r3, r4)) ∧ Aside0 (∃ b c, IsEd w7 w' g b c ns q m) ∧ Aside0 (Below w7.heap.size w7 w'))
      case atStart => exact ⟨0, l0, 0, rfl, H2, ⟨⟨_, _, HI.out⟩⟩, HB⟩
      case round =>
        clear H2 HI HB
        obtain ⟨i, ns, m, rfl, HA, HI0, HB⟩ := hrel
        obtain ⟨b, c, hI⟩ := HI0.out
        have HI := Aside0.mk hI
        clear hI HI0
        have RK := Aside0.mk (q02 HK.out HB.out)
        cases gk with
        | zero => exact absurd HA.out (by simp [edAllL])
        | succ k1 =>
          have H := HA.out
          clear HA
          unfold edAllL at H
          obtain ⟨hz0, hz1, hz2, -, -, -⟩ := bk3 HI.out.1
          obtain ⟨hr0, hr1, hrf0, hrf1⟩ := bk2 RK.out
          by_cases c10 : i < (l1.length : Int)
          · rw [if_pos c10] at H
            refine iGp H ?_
            clear H
            intro c11 H
            obtain ⟨⟨p1, p2, p3⟩, hp, H⟩ := Option.bind_eq_some_iff.1 H
            have HP2 : Aside0 (q1i k ns q m (q06 l1 i).f0 (q06 l1 i).f1 (q06 l1 i).f2 (q06 l1 i).f3 (q06 l1 i).f4 (q06 l1 i).f5 (q06 l1 i).f6.f0 (q06 l1 i).f6.f1 (q06 l1 i).f6.f2 (q06 l1 i).f6.f3 (q06 l1 i).f6.f4 (q06 l1 i).f6.f5 = some (p1, p2, p3)) := ⟨hp⟩
            clear hp
            have c10b : decide (i < (l1.length : Int)) = true := decide_eq_true c10
            obtain ⟨ad, A8, d8, A11, d11, e_, x0, x1, x2, x3, x4, x5, x6, x7, x8, x9, x10, x11, l8, C8, l11, C11⟩ := at_T87 HC7.out i c11 c10
            have HC8 := Aside0.mk C8
            have HL8 := Aside0.mk l8
            have HC11 := Aside0.mk C11
            have HL11 := Aside0.mk l11
            clear C8 l8 C11 l11
            subst e_
            replace x0 := (HB.out.cell (World.block_lt_of_cell? _ _ x0)).trans x0
            replace x1 := (HB.out.cell (World.block_lt_of_cell? _ _ x1)).trans x1
            replace x2 := (HB.out.cell (World.block_lt_of_cell? _ _ x2)).trans x2
            replace x3 := (HB.out.cell (World.block_lt_of_cell? _ _ x3)).trans x3
            replace x4 := (HB.out.cell (World.block_lt_of_cell? _ _ x4)).trans x4
            replace x5 := (HB.out.cell (World.block_lt_of_cell? _ _ x5)).trans x5
            replace x6 := (HB.out.cell (World.block_lt_of_cell? _ _ x6)).trans x6
            replace x7 := (HB.out.cell (World.block_lt_of_cell? _ _ x7)).trans x7
            replace x8 := (HB.out.cell (World.block_lt_of_cell? _ _ x8)).trans x8
            replace x9 := (HB.out.cell (World.block_lt_of_cell? _ _ x9)).trans x9
            replace x10 := (HB.out.cell (World.block_lt_of_cell? _ _ x10)).trans x10
            replace x11 := (HB.out.cell (World.block_lt_of_cell? _ _ x11)).trans x11
            have c11b : decide (0 ≤ i) = true := decide_eq_true c11
            have p0 := eq_true c11
            have p1_ := eq_true c10
            clear c10 c11
            go_upto_region 9 with (fail)
            go_upto_region 10 with (first | ((with_reducible refine q07 (N := 10) rfl ?_); refine box1 rfl (N := 10) rfl (cs := #[.int .i64 0, .int .i64 0, .int .i64 0, .int .i64 0, .string (⟨#[]⟩ : ByteArray), .string (⟨#[]⟩ : ByteArray), .int .i64 0, .string (⟨#[]⟩ : ByteArray), .slice none 0 0, .string (⟨#[]⟩ : ByteArray), .int .i64 0, .slice none 0 0]) (t := 87) zh ?_; intro ga wa AK GA AS; obtain ⟨hv0, hv1, hv2, hv3, hv4, hv5, hv6, hv7, hv8, hv9, hv10, hv11⟩ := bk12 AK.out) | (refine wpList_store_mid (by rfl) 87 (.tmp 10) (.tmp 35) (by rfl) ga 0 #[.int .i64 (q06 l1 i).f0, .int .i64 (q06 l1 i).f1, .int .i64 (q06 l1 i).f2, .int .i64 (q06 l1 i).f3, .string (q06 l1 i).f4, .string (q06 l1 i).f5, .int .i64 (q06 l1 i).f6.f0, .string (q06 l1 i).f6.f1, .slice A8 (q06 l1 i).f6.f2.length d8, .string (q06 l1 i).f6.f3, .int .i64 (q06 l1 i).f6.f4, .slice A11 (q06 l1 i).f6.f5.length d11] ?hx ?hy ?hT ?hI ?h1 ?_; go_must ((case hx => rfl); (case hy => rfl); (case hT => exact there_len AK.out rfl); (case hI => kernel_rfl); (case h1 => first | rfl | (simp [Value.oneCell']; done) | (simp; done) | decide))))
            have n_T := Aside0.mk (ed_twelve [.int .i64 (q06 l1 i).f0, .int .i64 (q06 l1 i).f1, .int .i64 (q06 l1 i).f2, .int .i64 (q06 l1 i).f3, .string (q06 l1 i).f4, .string (q06 l1 i).f5, .int .i64 (q06 l1 i).f6.f0, .string (q06 l1 i).f6.f1, .slice A8 (q06 l1 i).f6.f2.length d8, .string (q06 l1 i).f6.f3, .int .i64 (q06 l1 i).f6.f4, .slice A11 (q06 l1 i).f6.f5.length d11] AS.out GA.out AK.out rfl)
            have n_HI := Aside0.mk (IsEd.below HI.out n_T.out.1)
            have n_HB := Aside0.mk (q01 HB.out n_T.out.1)
            have n_RK := Aside0.mk (q02 RK.out n_T.out.1)
            have n_AK := Aside0.mk n_T.out.2
            clear n_T AK AS GA hv0 hv1 hv2 hv3 hv4 hv5 hv6 hv7 hv8 hv9 hv10 hv11 hz0 hz1 hz2 hr0 hr1 hrf0 hrf1 HI HB RK x0 x1 x2 x3 x4 x5 x6 x7 x8 x9 x10 x11 p0 p1_
            generalize (wa.setCells ga 0 [.int .i64 (q06 l1 i).f0, .int .i64 (q06 l1 i).f1, .int .i64 (q06 l1 i).f2, .int .i64 (q06 l1 i).f3, .string (q06 l1 i).f4, .string (q06 l1 i).f5, .int .i64 (q06 l1 i).f6.f0, .string (q06 l1 i).f6.f1, .slice A8 (q06 l1 i).f6.f2.length d8, .string (q06 l1 i).f6.f3, .int .i64 (q06 l1 i).f6.f4, .slice A11 (q06 l1 i).f6.f5.length d11]) = wb at n_HI n_HB n_RK n_AK ⊢
            have HI := n_HI
            have HB := n_HB
            have RK := n_RK
            clear n_HI n_HB n_RK
            obtain ⟨ha0, ha1, ha2, ha3, ha4, ha5, ha6, ha7, ha8, ha9, ha10, ha11⟩ := bk12 n_AK.out
            obtain ⟨hr0, hr1, hrf0, hrf1⟩ := bk2 RK.out
            go_upto_region 11 with (go_at_call 105; (with_reducible refine (ed_edit k HI.out HB.out (q06 l1 i).f0 (q06 l1 i).f1 (q06 l1 i).f2 (q06 l1 i).f3 (q06 l1 i).f4 (q06 l1 i).f5 (q06 l1 i).f6.f0 (q06 l1 i).f6.f1 A8 d8 (q06 l1 i).f6.f2 (q06 l1 i).f6.f3 (q06 l1 i).f6.f4 A11 d11 (q06 l1 i).f6.f5 HC8.out HL8.out HC11.out HL11.out HP2.out).mono ?_); rintro e w10 ⟨rfl, ⟨b9, c9, hI9⟩, hB9⟩; have n_HI := Aside0.mk hI9; have n_HB := Aside0.mk hB9; have n_RK := Aside0.mk (q02 HK.out hB9); clear HI HB RK hr0 hr1 hrf0 hrf1 ha0 ha1 ha2 ha3 ha4 ha5 ha6 ha7 ha8 ha9 ha10 ha11 hI9 hB9 n_AK; have HI := n_HI; have HB := n_HB; have RK := n_RK; clear n_HI n_HB n_RK; obtain ⟨hr0, hr1, hrf0, hrf1⟩ := bk2 RK.out)
            by_cases zp : p3 ≠ 0
            · have h3 := (if_pos (show (p1, p2, p3).2.2 ≠ 0 from zp)).symm.trans H
              clear H
              simp only [Option.some.injEq, Prod.mk.injEq] at h3
              obtain ⟨rfl, rfl, rfl, rfl⟩ := h3
              have z1 : (p3 != 0) = true := bne_iff_ne.mpr zp
              clear zp
              go_wp2
              refine bodyPost_ret (q0y rfl _ _ gr 24 #[.slice none 0 0, .bool false] (0, 0) _ rfl (q0h (q0h RK.out 0 _) 1 _) Tryd.underlying24 rfl (by kernel_rfl)) rfl ?_
              exact ⟨_, rfl, Kd.S_nil _ _ _ _ _, q08 (q08 (q01 HW.out HB.out) GR.out) GR.out⟩
            · have h3 := (if_neg (show ¬ (p1, p2, p3).2.2 ≠ 0 from zp)).symm.trans H
              clear H
              have z1 : (p3 != 0) = false := bne_eq_false_iff_eq.mpr (Classical.not_not.1 zp)
              clear zp
              go_wp2
              go_roundg k1
              case rel => exact ⟨wrap64 (i + 1), p1, p2, rfl, ⟨h3⟩, ⟨⟨_, _, HI.out⟩⟩, HB⟩
              all_goals (first | omega | trivial)
          · rw [if_neg c10] at H
            have c10b : decide (i < (l1.length : Int)) = false := decide_eq_false c10
            clear c10
            simp only [Option.some.injEq, Prod.mk.injEq] at H
            obtain ⟨rfl, rfl, rfl, rfl⟩ := H
            go_wp2
            refine bodyPost_ret (q0y rfl _ _ gr 24 #[.slice (some ⟨b, 0, none⟩) ns.length c, .bool q] (0, 0) _ rfl (q0h (q0h RK.out 0 _) 1 _) Tryd.underlying24 rfl (by kernel_rfl)) rfl ?_
            have hfar : ∀ k_, (w7.heap.size ≤ k_) → k_ ≠ gr := fun k_ hk e_ => by have h1_ := GL.out; omega
            exact ⟨_, rfl, Kd.S_mono (Kd.S_far (Kd.S_far (Kd.S_lower (Kd.S_mono (Kd.S_bound HI.out.2.2) (fun k_ hk => hk.2.1)) (Below.size HW.out)) hfar _) hfar _) (fun _ _ => trivial), q08 (q08 (q01 HW.out HB.out) GR.out) GR.out⟩
def edWholeL (k : Nat) : Nat → Int → List S87 → List S43 → Bool → Option (List S43 × Bool × Int × Int)
  | 0, _, _, _, _ => none
  | j + 1, i, l1, ns, q => if i < (l1.length : Int) then (if 0 ≤ i then (clerestoryref1_Edited.f k ns q (q06 l1 i).f0 (q06 l1 i).f1 (q06 l1 i).f2 (q06 l1 i).f3 (q06 l1 i).f4 (q06 l1 i).f5 (q06 l1 i).f6.f0 (q06 l1 i).f6.f1 (q06 l1 i).f6.f2 (q06 l1 i).f6.f3 (q06 l1 i).f6.f4 (q06 l1 i).f6.f5).bind fun p => if p.2.2.2 ≠ 0 then some ([], false, i, p.2.2.2) else edWholeL k j (wrap64 (i + 1)) l1 p.1 p.2.1 else none) else some (ns, q, 0, 0)
def clerestoryref1_EditedAll.f (k : Nat) (l0 : List S43) (q : Bool) (l1 : List S87) : Option (List S43 × Bool × Int × Int) :=
  (clerestoryref1_DocErr.f k l0 q).bind fun r => if r ≠ 0 then some ([], false, 0, r) else if 40 < l1.length then some ([], false, 0, 2) else edWholeL k k 0 l1 l0 q
set_option maxHeartbeats 16000000 in
set_option maxRecDepth 100000 in
theorem clerestoryref1_EditedAll.calls (k : Nat) (A0 : Option Addr) (c0 : Nat) (l0 : List S43) (q : Bool) (A1 : Option Addr) (c1 : Nat) (l1 : List S87) (r1 : List S43) (r2 : Bool) (r3 r4 : Int) (w : World) (hr0 : Kd.C k43 w A0 l0.length l0) (hc0 : l0.length ≤ c0) (hr1 : Kd.C k87 w A1 l1.length l1) (hc1 : l1.length ≤ c1) (h : clerestoryref1_EditedAll.f k l0 q l1 = some (r1, r2, r3, r4)) :
    Calls Tryd.prog 58 #[.agg #[.slice A0 l0.length c0, .bool q], .slice A1 l1.length c1] w fun e w' => ∃ (A : Option Addr) (c : Nat), e = .returned (.tuple #[.agg #[.slice A r1.length c, .bool r2], .int .i64 r3, .int .i64 r4]) ∧ Kd.C k43 w' A r1.length r1 ∧ r1.length ≤ c ∧ Below w.heap.size w w' := by
  have hu24 := Tryd.underlying24
  have hu87 := Tryd.underlying87
  have hu54 := Tryd.underlying54
  have HC := Aside0.mk hr0
  have HL := Aside0.mk hc0
  have HC7 := Aside0.mk hr1
  have HL1 := Aside0.mk hc1
  clear hr0 hc0 hr1 hc1
  unfold clerestoryref1_EditedAll.f at h
  obtain ⟨r, hr, h⟩ := Option.bind_eq_some_iff.1 h
  have HE := Aside0.mk hr
  clear hr
  go_enter Tryd.func58, Tryd.ntmps58
  go_upto_region 1 with (first | ((with_reducible refine q07 (N := 2) rfl ?_); refine box1 rfl (N := 2) rfl (cs := #[.slice A0 l0.length c0, .bool q]) (t := 24) zh ?_; intro gd wd DK GD DS) | ((with_reducible refine q07 (N := 4) rfl ?_); refine box1 rfl (N := 4) rfl (cs := #[.slice none 0 0, .bool false]) (t := 24) zh ?_; intro gr wr RK GS RS))
  have HB := Aside0.mk (q01 DS.out RS.out)
  have GR := Aside0.mk (show w.heap.size ≤ gr from Nat.le_trans (Below.size DS.out) GS.out)
  have GE := Aside0.mk (show w.heap.size ≤ gd from GD.out)
  have NE := Aside0.mk (show gd ≠ gr from fun e_ => by have h1_ := q0a DK.out; have h2_ := GS.out; omega)
  have n_DK := Aside0.mk (q02 DK.out RS.out)
  clear DK DS RS GS GD
  have DK := n_DK
  clear n_DK
  obtain ⟨hd0, hd1, hdf0, hdf1⟩ := bk2 DK.out
  obtain ⟨hr0, hr1, hrf0, hrf1⟩ := bk2 RK.out
  go_upto_region 2 with (go_at_call 17; (with_reducible refine (clerestoryref1_DocErr.calls k A0 c0 l0 q r _ (Kd.C_below HC.out HB.out) HL.out HE.out).mono ?_); rintro e w7 ⟨rfl, hbl⟩; have n_HB := Aside0.mk (q01 HB.out hbl); have n_DK := Aside0.mk (q02 DK.out hbl); have n_RK := Aside0.mk (q02 RK.out hbl); clear hd0 hd1 hdf0 hdf1 hr0 hr1 hrf0 hrf1; clear HB DK RK hbl; have HB := n_HB; have DK := n_DK; have RK := n_RK; clear n_HB n_DK n_RK; obtain ⟨hd0, hd1, hdf0, hdf1⟩ := bk2 DK.out; obtain ⟨hr0, hr1, hrf0, hrf1⟩ := bk2 RK.out)
  by_cases z : r ≠ 0
  · have h2 := (if_pos z).symm.trans h
    clear h
    simp only [Option.some.injEq, Prod.mk.injEq] at h2
    obtain ⟨rfl, rfl, rfl, rfl⟩ := h2
    have z1 : (r != 0) = true := bne_iff_ne.mpr z
    have z2 : (r == 0) = false := beq_eq_false_iff_ne.mpr z
    clear z
    go_wp2
    refine bodyPost_ret (q0y rfl _ _ gr 24 #[.slice none 0 0, .bool false] (0, 0) _ rfl (q0h (q0h RK.out 0 _) 1 _) Tryd.underlying24 rfl (by kernel_rfl)) rfl ?_
    first | exact ⟨none, 0, rfl, (Kd.R_reads' (Kd.R_nil k43 43 _ 0 (fun _ => True))).2.2, Nat.le_refl _, q08 (q08 HB.out GR.out) GR.out⟩ | exact ⟨none, ⟨0, rfl⟩, (Kd.R_reads' (Kd.R_nil k43 43 _ 0 (fun _ => True))).2.2, q08 (q08 HB.out GR.out) GR.out⟩
  · have h2 := (if_neg z).symm.trans h
    clear h
    obtain rfl : r = 0 := Classical.not_not.1 z
    clear z
    by_cases c40 : 40 < l1.length
    · rw [if_pos c40] at h2
      have cb : decide ((l1.length : Int) > 40) = true := decide_eq_true (by omega)
      clear c40
      simp only [Option.some.injEq, Prod.mk.injEq] at h2
      obtain ⟨rfl, rfl, rfl, rfl⟩ := h2
      go_wp2
      refine bodyPost_ret (q0y rfl _ _ gr 24 #[.slice none 0 0, .bool false] (0, 0) _ rfl (q0h (q0h RK.out 0 _) 1 _) Tryd.underlying24 rfl (by kernel_rfl)) rfl ?_
      first | exact ⟨none, 0, rfl, (Kd.R_reads' (Kd.R_nil k43 43 _ 0 (fun _ => True))).2.2, Nat.le_refl _, q08 (q08 HB.out GR.out) GR.out⟩ | exact ⟨none, ⟨0, rfl⟩, (Kd.R_reads' (Kd.R_nil k43 43 _ 0 (fun _ => True))).2.2, q08 (q08 HB.out GR.out) GR.out⟩
    · rw [if_neg c40] at h2
      have cb : decide ((l1.length : Int) > 40) = false := decide_eq_false (by omega)
      clear c40
      have H2 := Aside0.mk h2
      clear h2
      have HV := Aside0.mk (show Kd.V k43 43 w7 0 (fun k_ => k_ ≠ gd ∧ k_ ≠ gr) (.slice A0 l0.length c0) l0 from Kd.V_mk HL.out (Kd.F_mono (Kd.F_below (Kd.C_F k43_heap HC.out) HB.out) (fun k_ hk => ⟨fun e_ => by have h1_ := GE.out; omega, fun e_ => by have h1_ := GR.out; omega⟩)))
      clear HC HL
      go_wp2
      go_loopg [8] k (fun kq v8 w' => ∃ (i : Int) (ns : List S43) (m : Bool) (A : Option Addr) (c : Nat), v8 = .int .i64 i ∧ Aside0 (edWholeL k kq i l1 ns m = some (r1, r2, r3, r4)) ∧ Aside0 (w'.heap[gd]? = some (.cells #[.slice A ns.length c, .bool m] 24 (0, 0))) ∧ Aside0 (Kd.V k43 43 w' 0 (fun k_ => k_ ≠ gd ∧ k_ ≠ gr) (.slice A ns.length c) ns) ∧ Aside0 (w'.heap[gr]? = some (.cells #[.slice none 0 0, .bool false] 24 (0, 0))) ∧ Aside0 (Below w.heap.size w w'))
      case atStart => exact ⟨0, l0, q, A0, c0, rfl, H2, DK, HV, RK, HB⟩
      case round =>
        clear hd0 hd1 hdf0 hdf1 hr0 hr1 hrf0 hrf1
        clear H2 DK HV RK HB
        obtain ⟨i, ns, m, A, c, rfl, HA, DK, HV, RK, HB⟩ := hrel
        cases gk with
        | zero => exact absurd HA.out (by simp [edWholeL])
        | succ k1 =>
          have H := HA.out
          clear HA
          unfold edWholeL at H
          obtain ⟨hd0, hd1, hdf0, hdf1⟩ := bk2 DK.out
          obtain ⟨hr0, hr1, hrf0, hrf1⟩ := bk2 RK.out
          by_cases c10 : i < (l1.length : Int)
          · rw [if_pos c10] at H
            refine iGp H ?_
            clear H
            intro c11 H
            obtain ⟨⟨p1, p2, p3, p4⟩, hp, H⟩ := Option.bind_eq_some_iff.1 H
            have HP2 : Aside0 (clerestoryref1_Edited.f k ns m (q06 l1 i).f0 (q06 l1 i).f1 (q06 l1 i).f2 (q06 l1 i).f3 (q06 l1 i).f4 (q06 l1 i).f5 (q06 l1 i).f6.f0 (q06 l1 i).f6.f1 (q06 l1 i).f6.f2 (q06 l1 i).f6.f3 (q06 l1 i).f6.f4 (q06 l1 i).f6.f5 = some (p1, p2, p3, p4)) := ⟨hp⟩
            clear hp
            have c10b : decide (i < (l1.length : Int)) = true := decide_eq_true c10
            obtain ⟨ad, A8, d8, A11, d11, e_, x0, x1, x2, x3, x4, x5, x6, x7, x8, x9, x10, x11, l8, C8, l11, C11⟩ := at_T87 HC7.out i c11 c10
            have HC8 := Aside0.mk C8
            have HL8 := Aside0.mk l8
            have HC11 := Aside0.mk C11
            have HL11 := Aside0.mk l11
            clear C8 l8 C11 l11
            subst e_
            have HX0 := Aside0.mk x0
            have HX1 := Aside0.mk x1
            have HX2 := Aside0.mk x2
            have HX3 := Aside0.mk x3
            have HX4 := Aside0.mk x4
            have HX5 := Aside0.mk x5
            have HX6 := Aside0.mk x6
            have HX7 := Aside0.mk x7
            have HX8 := Aside0.mk x8
            have HX9 := Aside0.mk x9
            have HX10 := Aside0.mk x10
            have HX11 := Aside0.mk x11
            have hbw : Aside0 (Below w.heap.size w w) := ⟨Below.refl _ _⟩
            replace x0 := (HB.out.cell (World.block_lt_of_cell? _ _ x0)).trans x0
            replace x1 := (HB.out.cell (World.block_lt_of_cell? _ _ x1)).trans x1
            replace x2 := (HB.out.cell (World.block_lt_of_cell? _ _ x2)).trans x2
            replace x3 := (HB.out.cell (World.block_lt_of_cell? _ _ x3)).trans x3
            replace x4 := (HB.out.cell (World.block_lt_of_cell? _ _ x4)).trans x4
            replace x5 := (HB.out.cell (World.block_lt_of_cell? _ _ x5)).trans x5
            replace x6 := (HB.out.cell (World.block_lt_of_cell? _ _ x6)).trans x6
            replace x7 := (HB.out.cell (World.block_lt_of_cell? _ _ x7)).trans x7
            replace x8 := (HB.out.cell (World.block_lt_of_cell? _ _ x8)).trans x8
            replace x9 := (HB.out.cell (World.block_lt_of_cell? _ _ x9)).trans x9
            replace x10 := (HB.out.cell (World.block_lt_of_cell? _ _ x10)).trans x10
            replace x11 := (HB.out.cell (World.block_lt_of_cell? _ _ x11)).trans x11
            have c11b : decide (0 ≤ i) = true := decide_eq_true c11
            have p0 := eq_true c11
            have p1_ := eq_true c10
            clear c10 c11
            go_upto_region 9 with (fail)
            refine start_ (n := 14) (S := fun w' => w'.cell? ⟨gd, 0, none⟩ = some (.slice A ns.length c) ∧ w'.cell? ⟨gd, 1, none⟩ = some (.bool m) ∧ w'.cell? (ad.add (i.toNat * 12)) = some (.int .i64 (q06 l1 i).f0) ∧ w'.cell? (⟨(ad.add (i.toNat * 12)).block, (ad.add (i.toNat * 12)).off + 1, none⟩) = some (.int .i64 (q06 l1 i).f1) ∧ w'.cell? (⟨(ad.add (i.toNat * 12)).block, (ad.add (i.toNat * 12)).off + 2, none⟩) = some (.int .i64 (q06 l1 i).f2) ∧ w'.cell? (⟨(ad.add (i.toNat * 12)).block, (ad.add (i.toNat * 12)).off + 3, none⟩) = some (.int .i64 (q06 l1 i).f3) ∧ w'.cell? (⟨(ad.add (i.toNat * 12)).block, (ad.add (i.toNat * 12)).off + 4, none⟩) = some (.string (q06 l1 i).f4) ∧ w'.cell? (⟨(ad.add (i.toNat * 12)).block, (ad.add (i.toNat * 12)).off + 5, none⟩) = some (.string (q06 l1 i).f5) ∧ w'.cell? (⟨(ad.add (i.toNat * 12)).block, (ad.add (i.toNat * 12)).off + 6, none⟩) = some (.int .i64 (q06 l1 i).f6.f0) ∧ w'.cell? (⟨(ad.add (i.toNat * 12)).block, (ad.add (i.toNat * 12)).off + 7, none⟩) = some (.string (q06 l1 i).f6.f1) ∧ w'.cell? (⟨(ad.add (i.toNat * 12)).block, (ad.add (i.toNat * 12)).off + 8, none⟩) = some (.slice A8 (q06 l1 i).f6.f2.length d8) ∧ w'.cell? (⟨(ad.add (i.toNat * 12)).block, (ad.add (i.toNat * 12)).off + 9, none⟩) = some (.string (q06 l1 i).f6.f3) ∧ w'.cell? (⟨(ad.add (i.toNat * 12)).block, (ad.add (i.toNat * 12)).off + 10, none⟩) = some (.int .i64 (q06 l1 i).f6.f4) ∧ w'.cell? (⟨(ad.add (i.toNat * 12)).block, (ad.add (i.toNat * 12)).off + 11, none⟩) = some (.slice A11 (q06 l1 i).f6.f5.length d11)) (ds := [11]) #[false, false, false, false, false, false, false, false, false, false, false, false, false, false] (by kernel_rfl) rfl rfl ⟨hd0, hd1, x0, x1, x2, x3, x4, x5, x6, x7, x8, x9, x10, x11⟩ (fun hHeld => ?_)
            refine q0n (i := 1) (N := some 33) (v := ?_) (a' := ?_) #[false, true, false, false, false, false, false, false, false, false, false, false, false, false] rfl rfl (by kernel_rfl) (fun _ _ _ h => h) (Or.inl ⟨by rfl, ?_⟩) ?_ ?_
            rotate_left
            · intro w'
              go_simp
              with_reducible rfl
            rotate_left
            · simp only [Act.put, List.setIfInBounds_toArray, List.set_cons_zero, List.set_cons_succ, q0d, q0e]
              rfl
            refine q0n (i := 2) (N := some 34) (v := ?_) (a' := ?_) #[false, true, true, false, false, false, false, false, false, false, false, false, false, false] rfl rfl (by kernel_rfl) (fun _ _ _ h => h) (Or.inl ⟨by rfl, ?_⟩) ?_ ?_
            rotate_left
            · intro w'
              go_simp
              with_reducible rfl
            rotate_left
            · simp only [Act.put, List.setIfInBounds_toArray, List.set_cons_zero, List.set_cons_succ, q0d, q0e]
              rfl
            refine q0n (i := 3) (N := some 35) (v := ?_) (a' := ?_) #[false, true, true, true, false, false, false, false, false, false, false, false, false, false] rfl rfl (by kernel_rfl) (fun _ _ _ h => h) (Or.inl ⟨by rfl, ?_⟩) ?_ ?_
            rotate_left
            · intro w'
              go_simp
              with_reducible rfl
            rotate_left
            · simp only [Act.put, List.setIfInBounds_toArray, List.set_cons_zero, List.set_cons_succ, q0d, q0e]
              rfl
            refine take_ (i := 0) (N := some 32) (v := ?_) (a' := ?_) #[true, true, true, true, false, false, false, false, false, false, false, false, false, false] rfl rfl (by kernel_rfl) (fun _ _ _ h => h) (Or.inl ⟨by rfl, ?_⟩) hHeld ?_ ?_
            rotate_left
            · rintro w' ⟨s0, s1, s2, s3, s4, s5, s6, s7, s8, s9, s10, s11, s12, s13⟩
              go_simp
              with_reducible rfl
            rotate_left
            · simp only [Act.put, List.setIfInBounds_toArray, List.set_cons_zero, List.set_cons_succ, q0d, q0e]
              rfl
            refine take_ (i := 4) (N := some 36) (v := ?_) (a' := ?_) #[true, true, true, true, true, false, false, false, false, false, false, false, false, false] rfl rfl (by kernel_rfl) (fun _ _ _ h => h) (Or.inl ⟨by rfl, ?_⟩) hHeld ?_ ?_
            rotate_left
            · rintro w' ⟨s0, s1, s2, s3, s4, s5, s6, s7, s8, s9, s10, s11, s12, s13⟩
              go_simp
              with_reducible rfl
            rotate_left
            · simp only [Act.put, List.setIfInBounds_toArray, List.set_cons_zero, List.set_cons_succ, q0d, q0e]
              rfl
            refine join_ (σ := Option Addr × Nat × Nat) 3 #[true, true, true, true, true, true, true, true, true, true, true, false, false, false] (fun s => [(37, .tuple #[.agg #[.slice s.1 p1.length s.2.1, .bool p2], .int .i64 p3, .int .i64 p4]), (31, .tuple #[.agg #[.slice s.1 p1.length s.2.1, .bool p2], .int .i64 p3, .int .i64 p4]), (38, .agg #[.slice s.1 p1.length s.2.1, .bool p2]), (39, .int .i64 p3), (40, .int .i64 p4), (9, .pointer (some ⟨s.2.2, 0, none⟩))]) (fun s w' => Aside0 (Below w.heap.size w w') ∧ Aside0 (w'.heap[gd]? = some (.cells #[.slice A ns.length c, .bool m] 24 (0, 0))) ∧ Aside0 (w'.heap[gr]? = some (.cells #[.slice none 0 0, .bool false] 24 (0, 0))) ∧ Aside0 (Kd.V k43 43 w' 0 (fun k_ => k_ ≠ gd ∧ k_ ≠ gr ∧ k_ ≠ s.2.2) (.slice s.1 p1.length s.2.1) p1) ∧ Aside0 (w'.heap[s.2.2]? = some (Obj.cells #[.slice none 0 0, .bool false] 24)) ∧ Aside0 (w.heap.size ≤ s.2.2 ∧ s.2.2 ≠ gd ∧ s.2.2 ≠ gr)) ?_ ?_
            rotate_left
            · intro hCont
              refine two_ (i := 5) (j := 10) (Ni := some 37) (Nj := some 9) #[true, true, true, true, true, true, false, false, false, false, false, false, false, false] #[true, true, true, true, true, false, false, false, false, false, true, false, false, false] rfl rfl rfl rfl (by kernel_rfl) (by decide) (by decide) (fun K hK => ?_) (fun K hK => ?_)
              · skip
                refine goes_ Tryd.func56 (by kernel_rfl) rfl #[.agg #[.slice A ns.length c, .bool m], .agg #[.int .i64 (q06 l1 i).f0, .int .i64 (q06 l1 i).f1, .int .i64 (q06 l1 i).f2, .int .i64 (q06 l1 i).f3, .string (q06 l1 i).f4, .string (q06 l1 i).f5, .int .i64 (q06 l1 i).f6.f0, .string (q06 l1 i).f6.f1, .slice A8 (q06 l1 i).f6.f2.length d8, .string (q06 l1 i).f6.f3, .int .i64 (q06 l1 i).f6.f4, .slice A11 (q06 l1 i).f6.f5.length d11]] (by rfl) rfl rfl (by simp only [List.map_toArray, List.map_cons, List.map_nil]; rfl) ?_
                with_reducible refine (clerestoryref1_Edited.calls k A c ns m (q06 l1 i).f0 (q06 l1 i).f1 (q06 l1 i).f2 (q06 l1 i).f3 (q06 l1 i).f4 (q06 l1 i).f5 (q06 l1 i).f6.f0 (q06 l1 i).f6.f1 A8 d8 (q06 l1 i).f6.f2 (q06 l1 i).f6.f3 (q06 l1 i).f6.f4 A11 d11 (q06 l1 i).f6.f5 p1 p2 p3 p4 _ (Kd.V_reads' (Kd.V_drew HV.out)).2.2 (Kd.V_reads' (Kd.V_drew HV.out)).2.1 (Kd.C_below HC8.out (q0g HB.out)) HL8.out (Kd.C_below HC11.out (q0g HB.out)) HL11.out HP2.out).mono ?_
                rintro e w10 ⟨v9, rfl, hs, hbl0⟩
                refine ⟨_, rfl, ?_⟩
                obtain ⟨Ab, cb, e_⟩ := Kd.R_slice (Kd.S_R hs)
                subst e_
                have hbl := q01 (q0g (Below.refl wr.heap.size wr)) hbl0
                have n_V : Aside0 (Kd.V k43 43 w10 0 (fun k_ => k_ ≠ gd ∧ k_ ≠ gr) (.slice Ab p1.length cb) p1) := ⟨Kd.S_V (Kd.S_mono (Kd.S_bound hs) (fun k_ hk => ⟨fun e_ => by have h1_ := q0a DK.out; have h2_ : wr.heap.size ≤ k_ := hk.2.1; omega, fun e_ => by have h1_ := q0a RK.out; have h2_ : wr.heap.size ≤ k_ := hk.2.1; omega⟩))⟩
                have n_HB := Aside0.mk (q01 HB.out hbl)
                have n_DK := Aside0.mk (q02 DK.out hbl)
                have n_RK := Aside0.mk (q02 RK.out hbl)
                clear HV HB DK RK hbl hbl0 hs
                have HV := n_V
                have HB := n_HB
                have DK := n_DK
                have RK := n_RK
                clear n_V n_HB n_DK n_RK
                refine hK.out _ _ ⟨(bk2 DK.out).1, (bk2 DK.out).2.1, ((HB.out.cell (World.block_lt_of_cell? _ _ HX0.out)).trans HX0.out), ((HB.out.cell (World.block_lt_of_cell? _ _ HX1.out)).trans HX1.out), ((HB.out.cell (World.block_lt_of_cell? _ _ HX2.out)).trans HX2.out), ((HB.out.cell (World.block_lt_of_cell? _ _ HX3.out)).trans HX3.out), ((HB.out.cell (World.block_lt_of_cell? _ _ HX4.out)).trans HX4.out), ((HB.out.cell (World.block_lt_of_cell? _ _ HX5.out)).trans HX5.out), ((HB.out.cell (World.block_lt_of_cell? _ _ HX6.out)).trans HX6.out), ((HB.out.cell (World.block_lt_of_cell? _ _ HX7.out)).trans HX7.out), ((HB.out.cell (World.block_lt_of_cell? _ _ HX8.out)).trans HX8.out), ((HB.out.cell (World.block_lt_of_cell? _ _ HX9.out)).trans HX9.out), ((HB.out.cell (World.block_lt_of_cell? _ _ HX10.out)).trans HX10.out), ((HB.out.cell (World.block_lt_of_cell? _ _ HX11.out)).trans HX11.out)⟩ (fun hHeld => ?_)
                clear hK K
                refine q1n (a' := ?_) ?_ ?_
                rotate_left
                · show Act.put _ (some 37) _ = _
                  simp only [Act.put, List.setIfInBounds_toArray, List.set_cons_zero, List.set_cons_succ, q0d, q0e]
                  rfl
                refine q0n (i := 6) (N := some 31) (v := ?_) (a' := ?_) #[true, true, true, true, true, true, true, false, false, false, false, false, false, false] rfl rfl (by kernel_rfl) (fun _ _ _ h => h) (Or.inl ⟨by rfl, ?_⟩) ?_ ?_
                rotate_left
                · intro w'
                  go_simp
                  with_reducible rfl
                rotate_left
                · simp only [Act.put, List.setIfInBounds_toArray, List.set_cons_zero, List.set_cons_succ, q0d, q0e]
                  rfl
                refine q0n (i := 7) (N := some 38) (v := ?_) (a' := ?_) #[true, true, true, true, true, true, true, true, false, false, false, false, false, false] rfl rfl (by kernel_rfl) (fun _ _ _ h => h) (Or.inl ⟨by rfl, ?_⟩) ?_ ?_
                rotate_left
                · intro w'
                  go_simp
                  with_reducible rfl
                rotate_left
                · simp only [Act.put, List.setIfInBounds_toArray, List.set_cons_zero, List.set_cons_succ, q0d, q0e]
                  rfl
                refine q0n (i := 8) (N := some 39) (v := ?_) (a' := ?_) #[true, true, true, true, true, true, true, true, true, false, false, false, false, false] rfl rfl (by kernel_rfl) (fun _ _ _ h => h) (Or.inl ⟨by rfl, ?_⟩) ?_ ?_
                rotate_left
                · intro w'
                  go_simp
                  with_reducible rfl
                rotate_left
                · simp only [Act.put, List.setIfInBounds_toArray, List.set_cons_zero, List.set_cons_succ, q0d, q0e]
                  rfl
                refine q0n (i := 9) (N := some 40) (v := ?_) (a' := ?_) #[true, true, true, true, true, true, true, true, true, true, false, false, false, false] rfl rfl (by kernel_rfl) (fun _ _ _ h => h) (Or.inl ⟨by rfl, ?_⟩) ?_ ?_
                rotate_left
                · intro w'
                  go_simp
                  with_reducible rfl
                rotate_left
                · simp only [Act.put, List.setIfInBounds_toArray, List.set_cons_zero, List.set_cons_succ, q0d, q0e]
                  rfl
                refine one_ (i := 10) (N := some 9) #[true, true, true, true, true, true, true, true, true, true, true, false, false, false] rfl rfl (by kernel_rfl) (by decide) (fun K hK => ?_)
                refine value_ (w1 := ?_) (v := ?_) (by rfl) rfl ?_ ?_
                rotate_left 2
                · go_simp
                  constructor
                  · rfl
                  · rfl
                have hbl := q0i (Below.refl w10.heap.size w10) (Obj.cells #[.slice none 0 0, .bool false] 24)
                have n_HB := Aside0.mk (q01 HB.out hbl)
                have n_DK := Aside0.mk (q02 DK.out hbl)
                have n_RK := Aside0.mk (q02 RK.out hbl)
                have GG : Aside0 (w.heap.size ≤ w10.heap.size ∧ w10.heap.size ≠ gd ∧ w10.heap.size ≠ gr) := ⟨q0c HB.out, fun e_ => by have h1_ := q0a DK.out; omega, fun e_ => by have h1_ := q0a RK.out; omega⟩
                have n_V : Aside0 (Kd.V k43 43 (w10.alloc (Obj.cells #[.slice none 0 0, .bool false] 24)) 0 (fun k_ => k_ ≠ gd ∧ k_ ≠ gr ∧ k_ ≠ w10.heap.size) (.slice Ab p1.length cb) p1) := ⟨Kd.V_below (Kd.V_mono (Kd.V_bound HV.out) (fun k_ hk => ⟨hk.1.1, hk.1.2, Nat.ne_of_lt hk.2⟩)) hbl⟩
                have GK : Aside0 ((w10.alloc (Obj.cells #[.slice none 0 0, .bool false] 24)).heap[w10.heap.size]? = some (Obj.cells #[.slice none 0 0, .bool false] 24)) := ⟨heap_alloc_new w10 _⟩
                clear HV HB DK RK hbl
                have HV := n_V
                have HB := n_HB
                have DK := n_DK
                have RK := n_RK
                clear n_V n_HB n_DK n_RK
                refine hK.out _ _ ⟨(bk2 DK.out).1, (bk2 DK.out).2.1, ((HB.out.cell (World.block_lt_of_cell? _ _ HX0.out)).trans HX0.out), ((HB.out.cell (World.block_lt_of_cell? _ _ HX1.out)).trans HX1.out), ((HB.out.cell (World.block_lt_of_cell? _ _ HX2.out)).trans HX2.out), ((HB.out.cell (World.block_lt_of_cell? _ _ HX3.out)).trans HX3.out), ((HB.out.cell (World.block_lt_of_cell? _ _ HX4.out)).trans HX4.out), ((HB.out.cell (World.block_lt_of_cell? _ _ HX5.out)).trans HX5.out), ((HB.out.cell (World.block_lt_of_cell? _ _ HX6.out)).trans HX6.out), ((HB.out.cell (World.block_lt_of_cell? _ _ HX7.out)).trans HX7.out), ((HB.out.cell (World.block_lt_of_cell? _ _ HX8.out)).trans HX8.out), ((HB.out.cell (World.block_lt_of_cell? _ _ HX9.out)).trans HX9.out), ((HB.out.cell (World.block_lt_of_cell? _ _ HX10.out)).trans HX10.out), ((HB.out.cell (World.block_lt_of_cell? _ _ HX11.out)).trans HX11.out)⟩ (fun hHeld => ?_)
                clear hK K
                refine q1n (a' := ?_) ?_ ?_
                rotate_left
                · show Act.put _ (some 9) _ = _
                  simp only [Act.put, List.setIfInBounds_toArray, List.set_cons_zero, List.set_cons_succ, q0d, q0e]
                  rfl
                exact q1n (by simp only [putAll, Act.put, List.setIfInBounds_toArray, List.set_cons_zero, List.set_cons_succ]) (hCont (Ab, cb, w10.heap.size) _ ⟨HB, DK, RK, HV, GK, GG⟩)
              · skip
                refine value_ (w1 := ?_) (v := ?_) (by rfl) rfl ?_ ?_
                rotate_left 2
                · go_simp
                  constructor
                  · rfl
                  · rfl
                have hbl := q0g (q0i (Below.refl wr.heap.size wr) (Obj.cells #[.slice none 0 0, .bool false] 24))
                have n_HB := Aside0.mk (q01 HB.out hbl)
                have n_DK := Aside0.mk (q02 DK.out hbl)
                have n_RK := Aside0.mk (q02 RK.out hbl)
                have GG : Aside0 (w.heap.size ≤ wr.heap.size ∧ wr.heap.size ≠ gd ∧ wr.heap.size ≠ gr) := ⟨q0c HB.out, fun e_ => by have h1_ := q0a DK.out; omega, fun e_ => by have h1_ := q0a RK.out; omega⟩
                have n_V := Aside0.mk (Kd.V_below HV.out hbl)
                have GK : Aside0 ((wr.alloc (Obj.cells #[.slice none 0 0, .bool false] 24)).drew.heap[wr.heap.size]? = some (Obj.cells #[.slice none 0 0, .bool false] 24)) := ⟨heap_alloc_new wr _⟩
                clear HV HB DK RK hbl
                have HV := n_V
                have HB := n_HB
                have DK := n_DK
                have RK := n_RK
                clear n_V n_HB n_DK n_RK
                refine hK.out _ _ ⟨(bk2 DK.out).1, (bk2 DK.out).2.1, ((HB.out.cell (World.block_lt_of_cell? _ _ HX0.out)).trans HX0.out), ((HB.out.cell (World.block_lt_of_cell? _ _ HX1.out)).trans HX1.out), ((HB.out.cell (World.block_lt_of_cell? _ _ HX2.out)).trans HX2.out), ((HB.out.cell (World.block_lt_of_cell? _ _ HX3.out)).trans HX3.out), ((HB.out.cell (World.block_lt_of_cell? _ _ HX4.out)).trans HX4.out), ((HB.out.cell (World.block_lt_of_cell? _ _ HX5.out)).trans HX5.out), ((HB.out.cell (World.block_lt_of_cell? _ _ HX6.out)).trans HX6.out), ((HB.out.cell (World.block_lt_of_cell? _ _ HX7.out)).trans HX7.out), ((HB.out.cell (World.block_lt_of_cell? _ _ HX8.out)).trans HX8.out), ((HB.out.cell (World.block_lt_of_cell? _ _ HX9.out)).trans HX9.out), ((HB.out.cell (World.block_lt_of_cell? _ _ HX10.out)).trans HX10.out), ((HB.out.cell (World.block_lt_of_cell? _ _ HX11.out)).trans HX11.out)⟩ (fun hHeld => ?_)
                clear hK K
                refine q1n (a' := ?_) ?_ ?_
                rotate_left
                · show Act.put _ (some 9) _ = _
                  simp only [Act.put, List.setIfInBounds_toArray, List.set_cons_zero, List.set_cons_succ, q0d, q0e]
                  rfl
                refine one_ (i := 5) (N := some 37) #[true, true, true, true, true, true, false, false, false, false, true, false, false, false] rfl rfl (by kernel_rfl) (by decide) (fun K hK => ?_)
                refine goes_ Tryd.func56 (by kernel_rfl) rfl #[.agg #[.slice A ns.length c, .bool m], .agg #[.int .i64 (q06 l1 i).f0, .int .i64 (q06 l1 i).f1, .int .i64 (q06 l1 i).f2, .int .i64 (q06 l1 i).f3, .string (q06 l1 i).f4, .string (q06 l1 i).f5, .int .i64 (q06 l1 i).f6.f0, .string (q06 l1 i).f6.f1, .slice A8 (q06 l1 i).f6.f2.length d8, .string (q06 l1 i).f6.f3, .int .i64 (q06 l1 i).f6.f4, .slice A11 (q06 l1 i).f6.f5.length d11]] (by rfl) rfl rfl (by simp only [List.map_toArray, List.map_cons, List.map_nil]; rfl) ?_
                with_reducible refine (clerestoryref1_Edited.calls k A c ns m (q06 l1 i).f0 (q06 l1 i).f1 (q06 l1 i).f2 (q06 l1 i).f3 (q06 l1 i).f4 (q06 l1 i).f5 (q06 l1 i).f6.f0 (q06 l1 i).f6.f1 A8 d8 (q06 l1 i).f6.f2 (q06 l1 i).f6.f3 (q06 l1 i).f6.f4 A11 d11 (q06 l1 i).f6.f5 p1 p2 p3 p4 _ (Kd.V_reads' HV.out).2.2 (Kd.V_reads' HV.out).2.1 (Kd.C_below HC8.out HB.out) HL8.out (Kd.C_below HC11.out HB.out) HL11.out HP2.out).mono ?_
                rintro e w10 ⟨v9, rfl, hs, hbl0⟩
                refine ⟨_, rfl, ?_⟩
                obtain ⟨Ab, cb, e_⟩ := Kd.R_slice (Kd.S_R hs)
                subst e_
                have hbl := hbl0
                have n_V : Aside0 (Kd.V k43 43 w10 0 (fun k_ => k_ ≠ gd ∧ k_ ≠ gr ∧ k_ ≠ wr.heap.size) (.slice Ab p1.length cb) p1) := ⟨Kd.S_V (Kd.S_mono (Kd.S_bound hs) (fun k_ hk => ⟨fun e_ => by have h1_ := q0a DK.out; have h2_ : (wr.alloc (Obj.cells #[.slice none 0 0, .bool false] 24)).heap.size ≤ k_ := hk.2.1; omega, fun e_ => by have h1_ := q0a RK.out; have h2_ : (wr.alloc (Obj.cells #[.slice none 0 0, .bool false] 24)).heap.size ≤ k_ := hk.2.1; omega, fun e_ => by have h1_ := q0a GK.out; have h2_ : (wr.alloc (Obj.cells #[.slice none 0 0, .bool false] 24)).heap.size ≤ k_ := hk.2.1; omega⟩))⟩
                have n_HB := Aside0.mk (q01 HB.out hbl)
                have n_DK := Aside0.mk (q02 DK.out hbl)
                have n_RK := Aside0.mk (q02 RK.out hbl)
                have n_GK := Aside0.mk (q02 GK.out hbl)
                clear HV HB DK RK hbl hbl0 hs GK
                have HV := n_V
                have HB := n_HB
                have DK := n_DK
                have RK := n_RK
                have GK := n_GK
                clear n_V n_HB n_DK n_RK n_GK
                refine hK.out _ _ ⟨(bk2 DK.out).1, (bk2 DK.out).2.1, ((HB.out.cell (World.block_lt_of_cell? _ _ HX0.out)).trans HX0.out), ((HB.out.cell (World.block_lt_of_cell? _ _ HX1.out)).trans HX1.out), ((HB.out.cell (World.block_lt_of_cell? _ _ HX2.out)).trans HX2.out), ((HB.out.cell (World.block_lt_of_cell? _ _ HX3.out)).trans HX3.out), ((HB.out.cell (World.block_lt_of_cell? _ _ HX4.out)).trans HX4.out), ((HB.out.cell (World.block_lt_of_cell? _ _ HX5.out)).trans HX5.out), ((HB.out.cell (World.block_lt_of_cell? _ _ HX6.out)).trans HX6.out), ((HB.out.cell (World.block_lt_of_cell? _ _ HX7.out)).trans HX7.out), ((HB.out.cell (World.block_lt_of_cell? _ _ HX8.out)).trans HX8.out), ((HB.out.cell (World.block_lt_of_cell? _ _ HX9.out)).trans HX9.out), ((HB.out.cell (World.block_lt_of_cell? _ _ HX10.out)).trans HX10.out), ((HB.out.cell (World.block_lt_of_cell? _ _ HX11.out)).trans HX11.out)⟩ (fun hHeld => ?_)
                clear hK K
                refine q1n (a' := ?_) ?_ ?_
                rotate_left
                · show Act.put _ (some 37) _ = _
                  simp only [Act.put, List.setIfInBounds_toArray, List.set_cons_zero, List.set_cons_succ, q0d, q0e]
                  rfl
                refine q0n (i := 6) (N := some 31) (v := ?_) (a' := ?_) #[true, true, true, true, true, true, true, false, false, false, true, false, false, false] rfl rfl (by kernel_rfl) (fun _ _ _ h => h) (Or.inl ⟨by rfl, ?_⟩) ?_ ?_
                rotate_left
                · intro w'
                  go_simp
                  with_reducible rfl
                rotate_left
                · simp only [Act.put, List.setIfInBounds_toArray, List.set_cons_zero, List.set_cons_succ, q0d, q0e]
                  rfl
                refine q0n (i := 7) (N := some 38) (v := ?_) (a' := ?_) #[true, true, true, true, true, true, true, true, false, false, true, false, false, false] rfl rfl (by kernel_rfl) (fun _ _ _ h => h) (Or.inl ⟨by rfl, ?_⟩) ?_ ?_
                rotate_left
                · intro w'
                  go_simp
                  with_reducible rfl
                rotate_left
                · simp only [Act.put, List.setIfInBounds_toArray, List.set_cons_zero, List.set_cons_succ, q0d, q0e]
                  rfl
                refine q0n (i := 8) (N := some 39) (v := ?_) (a' := ?_) #[true, true, true, true, true, true, true, true, true, false, true, false, false, false] rfl rfl (by kernel_rfl) (fun _ _ _ h => h) (Or.inl ⟨by rfl, ?_⟩) ?_ ?_
                rotate_left
                · intro w'
                  go_simp
                  with_reducible rfl
                rotate_left
                · simp only [Act.put, List.setIfInBounds_toArray, List.set_cons_zero, List.set_cons_succ, q0d, q0e]
                  rfl
                refine q0n (i := 9) (N := some 40) (v := ?_) (a' := ?_) #[true, true, true, true, true, true, true, true, true, true, true, false, false, false] rfl rfl (by kernel_rfl) (fun _ _ _ h => h) (Or.inl ⟨by rfl, ?_⟩) ?_ ?_
                rotate_left
                · intro w'
                  go_simp
                  with_reducible rfl
                rotate_left
                · simp only [Act.put, List.setIfInBounds_toArray, List.set_cons_zero, List.set_cons_succ, q0d, q0e]
                  rfl
                exact q1n (by simp only [putAll, Act.put, List.setIfInBounds_toArray, List.set_cons_zero, List.set_cons_succ]) (hCont (Ab, cb, wr.heap.size) _ ⟨HB, DK, RK, HV, GK, GG⟩)
            clear HV HB DK RK
            rintro ⟨Ab, cb, g9⟩ wg ⟨HB, DK, RK, HV, GK, GG⟩
            have hHeld : wg.cell? ⟨gd, 0, none⟩ = some (.slice A ns.length c) ∧ wg.cell? ⟨gd, 1, none⟩ = some (.bool m) ∧ wg.cell? (ad.add (i.toNat * 12)) = some (.int .i64 (q06 l1 i).f0) ∧ wg.cell? (⟨(ad.add (i.toNat * 12)).block, (ad.add (i.toNat * 12)).off + 1, none⟩) = some (.int .i64 (q06 l1 i).f1) ∧ wg.cell? (⟨(ad.add (i.toNat * 12)).block, (ad.add (i.toNat * 12)).off + 2, none⟩) = some (.int .i64 (q06 l1 i).f2) ∧ wg.cell? (⟨(ad.add (i.toNat * 12)).block, (ad.add (i.toNat * 12)).off + 3, none⟩) = some (.int .i64 (q06 l1 i).f3) ∧ wg.cell? (⟨(ad.add (i.toNat * 12)).block, (ad.add (i.toNat * 12)).off + 4, none⟩) = some (.string (q06 l1 i).f4) ∧ wg.cell? (⟨(ad.add (i.toNat * 12)).block, (ad.add (i.toNat * 12)).off + 5, none⟩) = some (.string (q06 l1 i).f5) ∧ wg.cell? (⟨(ad.add (i.toNat * 12)).block, (ad.add (i.toNat * 12)).off + 6, none⟩) = some (.int .i64 (q06 l1 i).f6.f0) ∧ wg.cell? (⟨(ad.add (i.toNat * 12)).block, (ad.add (i.toNat * 12)).off + 7, none⟩) = some (.string (q06 l1 i).f6.f1) ∧ wg.cell? (⟨(ad.add (i.toNat * 12)).block, (ad.add (i.toNat * 12)).off + 8, none⟩) = some (.slice A8 (q06 l1 i).f6.f2.length d8) ∧ wg.cell? (⟨(ad.add (i.toNat * 12)).block, (ad.add (i.toNat * 12)).off + 9, none⟩) = some (.string (q06 l1 i).f6.f3) ∧ wg.cell? (⟨(ad.add (i.toNat * 12)).block, (ad.add (i.toNat * 12)).off + 10, none⟩) = some (.int .i64 (q06 l1 i).f6.f4) ∧ wg.cell? (⟨(ad.add (i.toNat * 12)).block, (ad.add (i.toNat * 12)).off + 11, none⟩) = some (.slice A11 (q06 l1 i).f6.f5.length d11) := ⟨(bk2 DK.out).1, (bk2 DK.out).2.1, ((HB.out.cell (World.block_lt_of_cell? _ _ HX0.out)).trans HX0.out), ((HB.out.cell (World.block_lt_of_cell? _ _ HX1.out)).trans HX1.out), ((HB.out.cell (World.block_lt_of_cell? _ _ HX2.out)).trans HX2.out), ((HB.out.cell (World.block_lt_of_cell? _ _ HX3.out)).trans HX3.out), ((HB.out.cell (World.block_lt_of_cell? _ _ HX4.out)).trans HX4.out), ((HB.out.cell (World.block_lt_of_cell? _ _ HX5.out)).trans HX5.out), ((HB.out.cell (World.block_lt_of_cell? _ _ HX6.out)).trans HX6.out), ((HB.out.cell (World.block_lt_of_cell? _ _ HX7.out)).trans HX7.out), ((HB.out.cell (World.block_lt_of_cell? _ _ HX8.out)).trans HX8.out), ((HB.out.cell (World.block_lt_of_cell? _ _ HX9.out)).trans HX9.out), ((HB.out.cell (World.block_lt_of_cell? _ _ HX10.out)).trans HX10.out), ((HB.out.cell (World.block_lt_of_cell? _ _ HX11.out)).trans HX11.out)⟩
            obtain ⟨hg0, hg1, hgf0, hgf1⟩ := bk2 GK.out
            refine q1n (a' := ?_) ?_ ?_
            rotate_left
            · simp only [putAll, Act.put, List.setIfInBounds_toArray, List.set_cons_zero, List.set_cons_succ]
              rfl
            refine last_ (i := 11) (N := none) #[true, true, true, true, true, true, true, true, true, true, true, true, false, false] rfl rfl (by kernel_rfl) (by decide) (fun K hK => ?_)
            refine skip_ (w1 := ?_) (by rfl) rfl ?_ ?_
            rotate_left
            · go_simp
              rfl
            refine hK.out _ _ ?_
            clear hK K
            refine q0n (i := 12) (N := some 10) (v := ?_) (a' := ?_) #[true, true, true, true, true, true, true, true, true, true, true, true, true, false] rfl rfl (by kernel_rfl) (fun _ _ _ h => h) (Or.inl ⟨by rfl, ?_⟩) ?_ ?_
            rotate_left
            · intro w'
              go_simp
              with_reducible rfl
            rotate_left
            · simp only [Act.put, List.setIfInBounds_toArray, List.set_cons_zero, List.set_cons_succ, q0d, q0e]
              rfl
            refine q0n (i := 13) (N := some 11) (v := ?_) (a' := ?_) #[true, true, true, true, true, true, true, true, true, true, true, true, true, true] rfl rfl (by kernel_rfl) (fun _ _ _ h => h) (Or.inl ⟨by rfl, ?_⟩) ?_ ?_
            rotate_left
            · intro w'
              go_simp
              with_reducible rfl
            rotate_left
            · simp only [Act.put, List.setIfInBounds_toArray, List.set_cons_zero, List.set_cons_succ, q0d, q0e]
              rfl
            refine done_ (by kernel_rfl) ?_
            have n_DK := Aside0.mk ((Below.heap_setCell _ ⟨g9, 1, none⟩ (.bool p2) gd (fun e_ => GG.out.2.1 e_.symm)).trans ((Below.heap_setCell wg ⟨g9, 0, none⟩ (.slice Ab p1.length cb) gd (fun e_ => GG.out.2.1 e_.symm)).trans DK.out))
            have n_RK := Aside0.mk ((Below.heap_setCell _ ⟨g9, 1, none⟩ (.bool p2) gr (fun e_ => GG.out.2.2 e_.symm)).trans ((Below.heap_setCell wg ⟨g9, 0, none⟩ (.slice Ab p1.length cb) gr (fun e_ => GG.out.2.2 e_.symm)).trans RK.out))
            have n_HV := Aside0.mk (Kd.V_mono (Kd.V_step (Kd.V_step HV.out (w1 := wg.setCell ⟨g9, 0, none⟩ (.slice Ab p1.length cb)) (fun k_ hk _ => Below.heap_setCell _ _ _ k_ hk.2.2)) (w1 := (wg.setCell ⟨g9, 0, none⟩ (.slice Ab p1.length cb)).setCell ⟨g9, 1, none⟩ (.bool p2)) (fun k_ hk _ => Below.heap_setCell _ _ _ k_ hk.2.2)) (ok' := (fun k_ => k_ ≠ gd ∧ k_ ≠ gr)) (fun k_ hk => ⟨hk.1, hk.2.1⟩))
            have n_HB := Aside0.mk (q08 (j := 1) (v := .bool p2) (q08 (j := 0) (v := .slice Ab p1.length cb) HB.out GG.out.1) GG.out.1)
            have n_G := Aside0.mk ((q0h (q0h GK.out 0 (.slice Ab p1.length cb)) 1 (.bool p2)).trans (show _ = some (Obj.cells #[.slice Ab p1.length cb, .bool p2] 24 (0, 0)) from rfl))
            clear hd0 hd1 hdf0 hdf1 hr0 hr1 hrf0 hrf1
            clear hHeld hg0 hg1 hgf0 hgf1 GK GG HB DK RK HV HP2 HC8 HL8 HC11 HL11
            generalize (wg.setCell ⟨g9, 0, none⟩ (.slice Ab p1.length cb)).setCell ⟨g9, 1, none⟩ (.bool p2) = wb at n_DK n_RK n_HV n_HB n_G ⊢
            have DK := n_DK
            have RK := n_RK
            have HV := n_HV
            have HB := n_HB
            have GK := n_G
            clear n_DK n_RK n_HV n_HB n_G
            obtain ⟨hd0, hd1, hdf0, hdf1⟩ := bk2 DK.out
            obtain ⟨hr0, hr1, hrf0, hrf1⟩ := bk2 RK.out
            obtain ⟨hg0, hg1, hgf0, hgf1⟩ := bk2 GK.out
            by_cases zp : p4 ≠ 0
            · have h3 := (if_pos (show (p1, p2, p3, p4).2.2.2 ≠ 0 from zp)).symm.trans H
              clear H
              simp only [Option.some.injEq, Prod.mk.injEq] at h3
              obtain ⟨rfl, rfl, rfl, rfl⟩ := h3
              have z1 : (p4 != 0) = true := bne_iff_ne.mpr zp
              clear zp
              go_wp2
              refine bodyPost_ret (q0y rfl _ _ gr 24 #[.slice none 0 0, .bool false] (0, 0) _ rfl (q0h (q0h RK.out 0 _) 1 _) Tryd.underlying24 rfl (by kernel_rfl)) rfl ?_
              first | exact ⟨none, 0, rfl, (Kd.R_reads' (Kd.R_nil k43 43 _ 0 (fun _ => True))).2.2, Nat.le_refl _, q08 (q08 HB.out GR.out) GR.out⟩ | exact ⟨none, ⟨0, rfl⟩, (Kd.R_reads' (Kd.R_nil k43 43 _ 0 (fun _ => True))).2.2, q08 (q08 HB.out GR.out) GR.out⟩
            · have h3 := (if_neg (show ¬ (p1, p2, p3, p4).2.2.2 ≠ 0 from zp)).symm.trans H
              clear H
              have z1 : (p4 != 0) = false := bne_eq_false_iff_eq.mpr (Classical.not_not.1 zp)
              clear zp
              go_wp2
              go_roundg k1
              case rel =>
                exact ⟨wrap64 (i + 1), p1, p2, Ab, cb, rfl, ⟨h3⟩, ⟨(q0h (q0h DK.out 0 _) 1 _).trans rfl⟩, ⟨Kd.V_step (Kd.V_step HV.out (fun k_ hk _ => Below.heap_setCell _ _ _ k_ hk.1)) (fun k_ hk _ => Below.heap_setCell _ _ _ k_ hk.1)⟩, ⟨(Below.heap_setCell _ _ _ gr (fun e_ => NE.out e_.symm)).trans ((Below.heap_setCell _ _ _ gr (fun e_ => NE.out e_.symm)).trans RK.out)⟩, ⟨q08 (q08 HB.out GE.out) GE.out⟩⟩
              all_goals (first | omega | trivial)
          · rw [if_neg c10] at H
            have c10b : decide (i < (l1.length : Int)) = false := decide_eq_false c10
            clear c10
            simp only [Option.some.injEq, Prod.mk.injEq] at H
            obtain ⟨rfl, rfl, rfl, rfl⟩ := H
            go_wp2
            refine bodyPost_ret (q0y rfl _ _ gr 24 #[.slice A ns.length c, .bool m] (0, 0) _ rfl (q0h (q0h RK.out 0 _) 1 _) Tryd.underlying24 rfl (by kernel_rfl)) rfl ?_
            exact ⟨A, c, rfl, (Kd.V_reads' (Kd.V_step (Kd.V_step HV.out (fun k_ hk _ => Below.heap_setCell _ _ _ k_ hk.2)) (fun k_ hk _ => Below.heap_setCell _ _ _ k_ hk.2))).2.2, (Kd.V_reads' HV.out).2.1, q08 (q08 HB.out GR.out) GR.out⟩
theorem C_few {w : World} {A : Option Addr} {l : List S87} (h : Kd.C k87 w A l.length l) (m : Nat) : Kd.C k87 w A (l.take m).length (l.take m) := by
  by_cases hm : m ≤ l.length
  · exact Kd.C_take h hm
  · rw [List.take_of_length_le (by omega)]
    exact h
def clerestorylaw1_DomAll.f (k : Nat) (l0 : List S43) (q : Bool) (le : List S87) : Option Bool :=
  (clerestorylaw1_few.f l0 q 60).bind fun p => (dom_All.f k p.1 p.2 (le.take 50)).bind fun a => (clerestoryref1_EditedAll.f k p.1 p.2 (le.take 50)).bind fun b => (clerestorylaw1_domBegun.f k).bind fun g => (clerestoryref1_SameDoc.f k a.1 a.2.1 b.1 b.2.1).bind fun s => if g = true ∧ s = true ∧ a.2.2.1 = b.2.2.1 ∧ a.2.2.2 = b.2.2.2 then some true else none
set_option maxHeartbeats 16000000 in
set_option maxRecDepth 100000 in
theorem clerestorylaw1_DomAll.calls (k : Nat) (A0 : Option Addr) (c0 : Nat) (l0 : List S43) (q : Bool) (Ae : Option Addr) (ce : Nat) (le : List S87) (r : Bool) (w : World) (hr0 : Kd.C k43 w A0 l0.length l0) (hc0 : l0.length ≤ c0) (hre : Kd.C k87 w Ae le.length le) (hce : le.length ≤ ce) (h : clerestorylaw1_DomAll.f k l0 q le = some r) :
    Calls Tryd.prog 12 #[.agg #[.slice A0 l0.length c0, .bool q], .slice Ae le.length ce] w fun e w' => e = .returned (.bool r) ∧ Below w.heap.size w w' := by
  have hu24 := Tryd.underlying24
  have hu54 := Tryd.underlying54
  have HC := Aside0.mk hr0
  have HL := Aside0.mk hc0
  have HCe := Aside0.mk (C_few hre 50)
  have HLe := Aside0.mk (show (le.take 50).length ≤ ce by rw [List.length_take]; omega)
  have HLc := Aside0.mk hce
  clear hr0 hc0 hre hce
  unfold clerestorylaw1_DomAll.f at h
  obtain ⟨l5, h5⟩ : ∃ l5 : List S87, le.take 50 = l5 := ⟨_, rfl⟩
  rw [h5] at h HCe HLe
  obtain ⟨⟨p1, p2⟩, hf, h⟩ := Option.bind_eq_some_iff.1 h
  have HF := Aside0.mk hf
  obtain ⟨⟨a1, a2, a3, a4⟩, ha, h⟩ := Option.bind_eq_some_iff.1 h
  have HA : Aside0 (dom_All.f k p1 p2 l5 = some (a1, a2, a3, a4)) := ⟨ha⟩
  obtain ⟨⟨b1, b2, b3, b4⟩, hb, h⟩ := Option.bind_eq_some_iff.1 h
  have HE : Aside0 (clerestoryref1_EditedAll.f k p1 p2 l5 = some (b1, b2, b3, b4)) := ⟨hb⟩
  obtain ⟨g, hg, h⟩ := Option.bind_eq_some_iff.1 h
  obtain ⟨s, hs, h⟩ := Option.bind_eq_some_iff.1 h
  refine iGp h ?_
  clear h
  intro ⟨hgt, s1, s2, s3⟩ h
  obtain rfl := Option.some.inj h
  have HG : Aside0 (clerestorylaw1_domBegun.f k = some true) := ⟨by rw [← hgt]; exact hg⟩
  have HS : Aside0 (clerestoryref1_SameDoc.f k a1 a2 b1 b2 = some true) := ⟨by rw [← s1]; exact hs⟩
  have s2 : a3 = b3 := s2
  have s3 : a4 = b4 := s3
  subst s2 s3
  clear hf ha hb hg hs hgt s1 h
  obtain ⟨n, hn⟩ : ∃ n : Nat, l5.length = n := ⟨_, rfl⟩
  have hn2 : (if (50 : Int) < (le.length : Int) then 50 else (le.length : Int)) = (n : Int) := by
    rw [← h5, List.length_take] at hn
    split <;> omega
  have n0 : decide (0 ≤ (n : Int)) = true := decide_eq_true (by omega)
  have n1 : decide ((n : Int) ≤ (ce : Int)) = true := decide_eq_true (by have h_ := HLe.out; omega)
  have n2 : (n : Int).toNat = n := Int.toNat_natCast n
  have n3 := eq_true (of_decide_eq_true n0)
  have n4 := eq_true (of_decide_eq_true n1)
  have HN := Aside0.mk hn
  clear hn h5
  go_enter Tryd.func12, Tryd.ntmps12
  go_upto_region 1 with (first | ((with_reducible refine q07 (N := 2) rfl ?_); refine box1 rfl (N := 2) rfl (cs := #[.slice A0 l0.length c0, .bool q]) (t := 24) zh ?_; intro gd wd DK GD DS))
  have HB := Aside0.mk DS.out
  have GD2 := Aside0.mk (show w.heap.size ≤ gd from GD.out)
  clear DS GD
  obtain ⟨hd0, hd1, hdf0, hdf1⟩ := bk2 DK.out
  refine start_ (n := 9) (S := fun w' => w'.cell? ⟨gd, 0, none⟩ = some (.slice A0 l0.length c0) ∧ w'.cell? ⟨gd, 1, none⟩ = some (.bool q)) (ds := [7]) #[false, false, false, false, false, false, false, false, false] (by kernel_rfl) rfl rfl ⟨hd0, hd1⟩ (fun hHeld => ?_)
  refine q0n (i := 2) (N := some 13) (v := ?_) (a' := ?_) #[false, false, true, false, false, false, false, false, false] rfl rfl (by kernel_rfl) (fun _ _ _ h => h) (Or.inl ⟨by rfl, ?_⟩) ?_ ?_
  rotate_left
  · intro w'
    go_simp
    with_reducible rfl
  rotate_left
  · simp only [Act.put, List.setIfInBounds_toArray, List.set_cons_zero, List.set_cons_succ, q0d, q0e]
    rfl
  refine q0n (i := 3) (N := some 14) (v := ?_) (a' := ?_) #[false, false, true, true, false, false, false, false, false] rfl rfl (by kernel_rfl) (fun _ _ _ h => h) (Or.inl ⟨by rfl, ?_⟩) ?_ ?_
  rotate_left
  · intro w'
    go_simp
    with_reducible rfl
  rotate_left
  · simp only [Act.put, List.setIfInBounds_toArray, List.set_cons_zero, List.set_cons_succ, q0d, q0e]
    rfl
  refine q0n (i := 4) (N := some 15) (v := ?_) (a' := ?_) #[false, false, true, true, true, false, false, false, false] rfl rfl (by kernel_rfl) (fun _ _ _ h => h) (Or.inl ⟨by rfl, ?_⟩) ?_ ?_
  rotate_left
  · intro w'
    go_simp
    with_reducible rfl
  rotate_left
  · simp only [Act.put, List.setIfInBounds_toArray, List.set_cons_zero, List.set_cons_succ, q0d, q0e]
    rfl
  refine q0n (i := 5) (N := some 16) (v := ?_) (a' := ?_) #[false, false, true, true, true, true, false, false, false] rfl rfl (by kernel_rfl) (fun _ _ _ h => h) (Or.inl ⟨by rfl, ?_⟩) ?_ ?_
  rotate_left
  · intro w'
    go_simp
    with_reducible rfl
  rotate_left
  · simp only [Act.put, List.setIfInBounds_toArray, List.set_cons_zero, List.set_cons_succ, q0d, q0e]
    rfl
  refine q0n (i := 6) (N := some 17) (v := ?_) (a' := ?_) #[false, false, true, true, true, true, true, false, false] rfl rfl (by kernel_rfl) (fun _ _ _ h => h) (Or.inl ⟨by rfl, ?_⟩) ?_ ?_
  rotate_left
  · intro w'
    go_simp
    with_reducible rfl
  rotate_left
  · simp only [Act.put, List.setIfInBounds_toArray, List.set_cons_zero, List.set_cons_succ, q0d, q0e]
    rfl
  refine take_ (i := 0) (N := some 11) (v := ?_) (a' := ?_) #[true, false, true, true, true, true, true, false, false] rfl rfl (by kernel_rfl) (fun _ _ _ h => h) (Or.inl ⟨by rfl, ?_⟩) hHeld ?_ ?_
  rotate_left
  · rintro w' ⟨s0, s1⟩
    go_simp
    with_reducible rfl
  rotate_left
  · simp only [Act.put, List.setIfInBounds_toArray, List.set_cons_zero, List.set_cons_succ, q0d, q0e]
    rfl
  refine one_ (i := 1) (N := some 12) #[true, true, true, true, true, true, true, false, false] rfl rfl (by kernel_rfl) (by decide) (fun K hK => ?_)
  refine goes_ Tryd.func15 (by kernel_rfl) rfl #[.agg #[.slice A0 l0.length c0, .bool q], .int .i64 60] (by rfl) rfl rfl (by simp only [List.map_toArray, List.map_cons, List.map_nil]; rfl) ?_
  with_reducible refine (clerestorylaw1_few.calls (fun k_ => k_ < w.heap.size) _ _ l0 q 60 p1 p2 _ (Kd.V_mk HL.out (Kd.F_below (Kd.C_F k43_heap HC.out) (q0g HB.out))) HF.out).mono ?_
  rintro e w7 ⟨v1, rfl, hv, hbl0⟩
  refine ⟨_, rfl, ?_⟩
  obtain ⟨A1, c1, e_⟩ := Kd.V_slice hv
  subst e_
  have hbl := q01 (q0g (Below.refl wd.heap.size wd)) hbl0
  have HV := Aside0.mk hv
  have n_DK := Aside0.mk (q02 DK.out hbl)
  have n_HB := Aside0.mk (q01 HB.out hbl)
  clear hv hbl hbl0 hHeld
  have HX := Aside0.mk (q0a DK.out)
  clear DK HB hd0 hd1 hdf0 hdf1
  have DK := n_DK
  have HB := n_HB
  clear n_DK n_HB
  obtain ⟨hd0, hd1, hdf0, hdf1⟩ := bk2 DK.out
  refine hK.out _ _ ⟨hd0, hd1⟩ (fun hHeld => ?_)
  clear hK K
  refine q1n (a' := ?_) ?_ ?_
  rotate_left
  · show Act.put _ (some 12) _ = _
    simp only [Act.put, List.setIfInBounds_toArray, List.set_cons_zero, List.set_cons_succ, q0d, q0e]
    rfl
  refine last_ (i := 7) (N := none) #[true, true, true, true, true, true, true, true, false] rfl rfl (by kernel_rfl) (by decide) (fun K hK => ?_)
  refine skip_ (w1 := ?_) (by rfl) rfl ?_ ?_
  rotate_left
  · go_simp
    rfl
  refine hK.out _ _ ?_
  clear hK K
  refine q0n (i := 8) (N := some 1) (v := ?_) (a' := ?_) #[true, true, true, true, true, true, true, true, true] rfl rfl (by kernel_rfl) (fun _ _ _ h => h) (Or.inl ⟨by rfl, ?_⟩) ?_ ?_
  rotate_left
  · intro w'
    go_simp
    with_reducible rfl
  rotate_left
  · simp only [Act.put, List.setIfInBounds_toArray, List.set_cons_zero, List.set_cons_succ, q0d, q0e]
    rfl
  refine done_ (by kernel_rfl) ?_
  have hn_ := HN.out
  clear HN hHeld n0 n1 n2 n3 n4 hn2 HLc
  subst hn_
  have hne : ∀ k_, (k_ < w.heap.size ∨ wd.heap.size ≤ k_) → k_ ≠ gd := fun k_ hk e_ => by have h1_ := GD2.out; have h2_ := HX.out; rcases hk with h3_ | h3_ <;> omega
  have n_V := Kd.V_reads' (Kd.V_step (Kd.V_step HV.out (w1 := w7.setCell ⟨gd, 0, none⟩ (.slice A1 p1.length c1)) (fun k_ hk _ => Below.heap_setCell w7 _ _ k_ (hne k_ hk))) (w1 := (w7.setCell ⟨gd, 0, none⟩ (.slice A1 p1.length c1)).setCell ⟨gd, 1, none⟩ (.bool p2)) (fun k_ hk _ => Below.heap_setCell _ _ _ k_ (hne k_ hk)))
  have HC1 := Aside0.mk n_V.2.2
  have HL1 := Aside0.mk n_V.2.1
  have n_DK := Aside0.mk ((q0h (q0h DK.out 0 (.slice A1 p1.length c1)) 1 (.bool p2)).trans (show _ = some (Obj.cells #[.slice A1 p1.length c1, .bool p2] 24 (0, 0)) from rfl))
  have n_HB := Aside0.mk (q08 (j := 1) (v := .bool p2) (q08 (j := 0) (v := .slice A1 p1.length c1) HB.out GD2.out) GD2.out)
  have n_Ce := Aside0.mk (Kd.C_below HCe.out n_HB.out)
  clear hd0 hd1 hdf0 hdf1
  clear n_V hne HV HX DK HB HC HL HCe HF
  generalize (w7.setCell ⟨gd, 0, none⟩ (.slice A1 p1.length c1)).setCell ⟨gd, 1, none⟩ (.bool p2) = wa at HC1 n_DK n_HB n_Ce ⊢
  have DK := n_DK
  have HB := n_HB
  have HCe := n_Ce
  clear n_DK n_HB n_Ce
  obtain ⟨hd0, hd1, hdf0, hdf1⟩ := bk2 DK.out
  go_upto_region 2 with (fail)
  go_upto_region 3 with (first | (go_at_call 57; (with_reducible refine (dom_All.calls k A1 c1 p1 p2 Ae ce l5 _ _ _ _ _ HC1.out HL1.out HCe.out HLe.out HA.out).mono ?_); rintro e w8 ⟨va, rfl, hs, hbl⟩; obtain ⟨Aa, ca, e_⟩ := Kd.R_slice (Kd.S_R hs); subst e_; have n_R := Aside0.mk (Kd.S_reads' hs).2.2; have n_L := Aside0.mk (Kd.S_reads' hs).2.1; clear hs; have n_HB := Aside0.mk (q01 HB.out hbl); have n_DK := Aside0.mk (q02 DK.out hbl); have n_HC1 := Aside0.mk (Kd.C_below HC1.out hbl); have n_HCe := Aside0.mk (Kd.C_below HCe.out hbl); clear hbl HB DK HC1 HCe; have HB := n_HB; have DK := n_DK; have HC1 := n_HC1; have HCe := n_HCe; clear n_HB n_DK n_HC1 n_HCe; clear hd0 hd1 hdf0 hdf1; obtain ⟨hd0, hd1, hdf0, hdf1⟩ := bk2 DK.out) | ((with_reducible refine q07 (N := 5) rfl ?_); refine box1 rfl (N := 5) rfl (cs := #[.slice none 0 0, .bool false]) (t := 24) zh ?_; intro g5 wg GK GG GS; have GK1 := bk2 GK.out; obtain ⟨hg0, hg1, hgf0, hgf1⟩ := GK1))
  clear hd0 hd1 hdf0 hdf1
  have hbl := q08 (j := 1) (v := .bool a2) (q08 (j := 0) (v := .slice Aa a1.length ca) GS.out GG.out) GG.out
  have n_DK := Aside0.mk (q02 DK.out hbl)
  have n_HC1 := Aside0.mk (Kd.C_below HC1.out hbl)
  have n_HCe := Aside0.mk (Kd.C_below HCe.out hbl)
  have n_n_R := Aside0.mk (Kd.C_below n_R.out hbl)
  have n_G := Aside0.mk ((q0h (q0h GK.out 0 (.slice Aa a1.length ca)) 1 (.bool a2)).trans (show _ = some (Obj.cells #[.slice Aa a1.length ca, .bool a2] 24 (0, 0)) from rfl))
  have n_HB := Aside0.mk (q01 HB.out hbl)
  clear hbl hg0 hg1 hgf0 hgf1 GK GG GS HB n_R DK HC1 HCe
  generalize (wg.setCell ⟨g5, 0, none⟩ (.slice Aa a1.length ca)).setCell ⟨g5, 1, none⟩ (.bool a2) = wb at n_HB n_G n_n_R n_DK n_HC1 n_HCe ⊢
  have HB := n_HB
  have HCa := n_n_R
  have HLa := n_L
  have Gg5 := n_G
  have DK := n_DK
  have HC1 := n_HC1
  have HCe := n_HCe
  clear n_HB n_n_R n_L n_G n_DK n_HC1 n_HCe
  obtain ⟨hd0, hd1, hdf0, hdf1⟩ := bk2 DK.out
  obtain ⟨hm0, hm1, -, -⟩ := bk2 Gg5.out
  go_upto_region 4 with (first | (go_at_call 58; (with_reducible refine (clerestoryref1_EditedAll.calls k A1 c1 p1 p2 Ae ce l5 _ _ _ _ _ HC1.out HL1.out HCe.out HLe.out HE.out).mono ?_); rintro e w8 ⟨Ab, cb, rfl, hs, hs2, hbl⟩; have n_R := Aside0.mk hs; have n_L := Aside0.mk hs2; clear hs hs2; have n_HB := Aside0.mk (q01 HB.out hbl); have n_DK := Aside0.mk (q02 DK.out hbl); have n_Gg5 := Aside0.mk (q02 Gg5.out hbl); have n_HC1 := Aside0.mk (Kd.C_below HC1.out hbl); have n_HCe := Aside0.mk (Kd.C_below HCe.out hbl); have n_HCa := Aside0.mk (Kd.C_below HCa.out hbl); clear hbl HB DK Gg5 HC1 HCe HCa; have HB := n_HB; have DK := n_DK; have Gg5 := n_Gg5; have HC1 := n_HC1; have HCe := n_HCe; have HCa := n_HCa; clear n_HB n_DK n_Gg5 n_HC1 n_HCe n_HCa; clear hd0 hd1 hdf0 hdf1; clear hm0 hm1; obtain ⟨hd0, hd1, hdf0, hdf1⟩ := bk2 DK.out; obtain ⟨hm0, hm1, -, -⟩ := bk2 Gg5.out) | ((with_reducible refine q07 (N := 8) rfl ?_); refine box1 rfl (N := 8) rfl (cs := #[.slice none 0 0, .bool false]) (t := 24) zh ?_; intro g8 wg GK GG GS; have GK1 := bk2 GK.out; obtain ⟨hg0, hg1, hgf0, hgf1⟩ := GK1))
  clear hd0 hd1 hdf0 hdf1
  clear hm0 hm1
  have hbl := q08 (j := 1) (v := .bool b2) (q08 (j := 0) (v := .slice Ab b1.length cb) GS.out GG.out) GG.out
  have n_Gg5 := Aside0.mk (q02 Gg5.out hbl)
  have n_HCa := Aside0.mk (Kd.C_below HCa.out hbl)
  have n_n_R := Aside0.mk (Kd.C_below n_R.out hbl)
  have n_G := Aside0.mk ((q0h (q0h GK.out 0 (.slice Ab b1.length cb)) 1 (.bool b2)).trans (show _ = some (Obj.cells #[.slice Ab b1.length cb, .bool b2] 24 (0, 0)) from rfl))
  have n_HB := Aside0.mk (q01 HB.out hbl)
  clear hbl hg0 hg1 hgf0 hgf1 GK GG GS HB n_R Gg5 HCa
  generalize (wg.setCell ⟨g8, 0, none⟩ (.slice Ab b1.length cb)).setCell ⟨g8, 1, none⟩ (.bool b2) = wc at n_HB n_G n_n_R n_Gg5 n_HCa ⊢
  have HB := n_HB
  have HCb := n_n_R
  have HLb := n_L
  have Gg8 := n_G
  have Gg5 := n_Gg5
  have HCa := n_HCa
  clear n_HB n_n_R n_L n_G n_Gg5 n_HCa
  have x1 : (a3 == a3) = true := beq_self_eq_true a3
  have x2 : (a4 == a4) = true := beq_self_eq_true a4
  obtain ⟨hm0, hm1, -, -⟩ := bk2 Gg5.out
  obtain ⟨hn0, hn1, -, -⟩ := bk2 Gg8.out
  go_wp2_with (first | (go_at_call 51; (with_reducible refine (clerestorylaw1_domBegun.calls k true _ HG.out).mono ?_); rintro e w9 ⟨rfl, hbl⟩; have n_HB := Aside0.mk (q01 HB.out hbl); have n_Gg5 := Aside0.mk (q02 Gg5.out hbl); have n_Gg8 := Aside0.mk (q02 Gg8.out hbl); have n_HCa := Aside0.mk (Kd.C_below HCa.out hbl); have n_HCb := Aside0.mk (Kd.C_below HCb.out hbl); clear hbl HB Gg5 Gg8 HCa HCb; have HB := n_HB; have Gg5 := n_Gg5; have Gg8 := n_Gg8; have HCa := n_HCa; have HCb := n_HCb; clear n_HB n_Gg5 n_Gg8 n_HCa n_HCb; clear hm0 hm1 hn0 hn1; obtain ⟨hm0, hm1, -, -⟩ := bk2 Gg5.out; obtain ⟨hn0, hn1, -, -⟩ := bk2 Gg8.out) | (go_at_call 53; (with_reducible refine (clerestoryref1_SameDoc.calls k Aa ca a1 a2 Ab cb b1 b2 true _ HCa.out HLa.out HCb.out HLb.out HS.out).mono ?_); rintro e w9 ⟨rfl, hbl⟩; have n_HB := Aside0.mk (q01 HB.out hbl); clear HB; have HB := n_HB; clear n_HB))
  go_ret
  exact ⟨rfl, HB.out⟩
end Go.Proofs.YthjnallbbhnndaaDoor.XDe
namespace Go.Proofs.YthjnallbbhnndaaDoor.XDe
open Go.Proofs.YthjnallbbhnndaaDoor.Short Go.RowKit Go.Proofs.YthjnallbbhnndaaDoorW.PrintWords Go.Proofs.YthjnallbbhnndaaDoorW.PrintLast Go.Proofs.YthjnallbbhnndaaDoor
def ok122 (x_ : S122) : Prop := (fun x_ : ByteArray => x_.size ≤ reachBytes) x_.f0 ∧ (fun x_ : ByteArray => x_.size ≤ reachBytes) x_.f1
theorem rd122 : Rd.Reads Tryd.prog 122 k122 ok122 :=
  ((Rd.reads_struct Tryd.underlying122 (by kernel_rfl) (Rd.readsF_cons rfl (Rd.reads_string Tryd.underlying9 (by kernel_rfl)) (Rd.readsF_one rfl (Rd.reads_string Tryd.underlying9 (by kernel_rfl))))).iso (fun x : S122 => (x.f0, x.f1)) (fun p_ => ⟨p_.1, p_.2⟩) (fun _ => rfl)).imp (fun _ h_ => h_)
def ok43 (x_ : S43) : Prop := (fun x_ : Int => (Lit.int .i64 x_).wf = true) x_.f0 ∧ (fun x_ : ByteArray => x_.size ≤ reachBytes) x_.f1 ∧ (fun l_ : List (S122) => l_.length * 32 ≤ reachBytes ∧ l_.length ≤ 9223372036854775807 ∧ ∀ a ∈ l_, ok122 a) x_.f2 ∧ (fun x_ : ByteArray => x_.size ≤ reachBytes) x_.f3 ∧ (fun x_ : Int => (Lit.int .i64 x_).wf = true) x_.f4 ∧ (fun l_ : List Int => l_.length * 8 ≤ reachBytes ∧ l_.length ≤ 9223372036854775807 ∧ ∀ a ∈ l_, (fun x_ : Int => (Lit.int .i64 x_).wf = true) a) x_.f5
theorem rd43 : Rd.Reads Tryd.prog 43 k43 ok43 :=
  ((Rd.reads_struct Tryd.underlying43 (by kernel_rfl) (Rd.readsF_cons rfl (Rd.reads_int Tryd.underlying3 (by kernel_rfl)) (Rd.readsF_cons rfl (Rd.reads_string Tryd.underlying9 (by kernel_rfl)) (Rd.readsF_cons rfl (show Rd.Reads Tryd.prog 41 (Kd.slice 122 k122) (fun l_ : List (S122) => l_.length * 32 ≤ reachBytes ∧ l_.length ≤ 9223372036854775807 ∧ ∀ a ∈ l_, ok122 a) from (Rd.reads_slice Tryd.underlying41 (by kernel_rfl) rd122).imp (fun l_ h_ => ⟨(show Tryd.prog.bytesOf 122 = 32 from by kernel_rfl) ▸ h_.1, h_.2⟩)) (Rd.readsF_cons rfl (Rd.reads_string Tryd.underlying9 (by kernel_rfl)) (Rd.readsF_cons rfl (Rd.reads_int Tryd.underlying3 (by kernel_rfl)) (Rd.readsF_one rfl (show Rd.Reads Tryd.prog 31 (Kd.slice 3 (Kd.int .i64)) (fun l_ : List Int => l_.length * 8 ≤ reachBytes ∧ l_.length ≤ 9223372036854775807 ∧ ∀ a ∈ l_, (fun x_ : Int => (Lit.int .i64 x_).wf = true) a) from (Rd.reads_slice Tryd.underlying31 (by kernel_rfl) (Rd.reads_int Tryd.underlying3 (by kernel_rfl))).imp (fun l_ h_ => ⟨(show Tryd.prog.bytesOf 3 = 8 from by kernel_rfl) ▸ h_.1, h_.2⟩))))))))).iso (fun x : S43 => (x.f0, x.f1, x.f2, x.f3, x.f4, x.f5)) (fun p_ => ⟨p_.1, p_.2.1, p_.2.2.1, p_.2.2.2.1, p_.2.2.2.2.1, p_.2.2.2.2.2⟩) (fun _ => rfl)).imp (fun _ h_ => h_)
def ok24 (x_ : S24) : Prop := (fun l_ : List (S43) => l_.length * 96 ≤ reachBytes ∧ l_.length ≤ 9223372036854775807 ∧ ∀ a ∈ l_, ok43 a) x_.f0 ∧ (fun _ : Bool => True) x_.f1
theorem rd24 : Rd.Reads Tryd.prog 24 k24 ok24 :=
  ((Rd.reads_struct Tryd.underlying24 (by kernel_rfl) (Rd.readsF_cons rfl (show Rd.Reads Tryd.prog 22 (Kd.slice 43 k43) (fun l_ : List (S43) => l_.length * 96 ≤ reachBytes ∧ l_.length ≤ 9223372036854775807 ∧ ∀ a ∈ l_, ok43 a) from (Rd.reads_slice Tryd.underlying22 (by kernel_rfl) rd43).imp (fun l_ h_ => ⟨(show Tryd.prog.bytesOf 43 = 96 from by kernel_rfl) ▸ h_.1, h_.2⟩)) (Rd.readsF_one rfl (Rd.reads_bool Tryd.underlying4 (by kernel_rfl))))).iso (fun x : S24 => (x.f0, x.f1)) (fun p_ => ⟨p_.1, p_.2⟩) (fun _ => rfl)).imp (fun _ h_ => h_)
def ok87 (x_ : S87) : Prop := (fun x_ : Int => (Lit.int .i64 x_).wf = true) x_.f0 ∧ (fun x_ : Int => (Lit.int .i64 x_).wf = true) x_.f1 ∧ (fun x_ : Int => (Lit.int .i64 x_).wf = true) x_.f2 ∧ (fun x_ : Int => (Lit.int .i64 x_).wf = true) x_.f3 ∧ (fun x_ : ByteArray => x_.size ≤ reachBytes) x_.f4 ∧ (fun x_ : ByteArray => x_.size ≤ reachBytes) x_.f5 ∧ ok43 x_.f6
theorem rd87 : Rd.Reads Tryd.prog 87 k87 ok87 :=
  ((Rd.reads_struct Tryd.underlying87 (by kernel_rfl) (Rd.readsF_cons rfl (Rd.reads_int Tryd.underlying3 (by kernel_rfl)) (Rd.readsF_cons rfl (Rd.reads_int Tryd.underlying3 (by kernel_rfl)) (Rd.readsF_cons rfl (Rd.reads_int Tryd.underlying3 (by kernel_rfl)) (Rd.readsF_cons rfl (Rd.reads_int Tryd.underlying3 (by kernel_rfl)) (Rd.readsF_cons rfl (Rd.reads_string Tryd.underlying9 (by kernel_rfl)) (Rd.readsF_cons rfl (Rd.reads_string Tryd.underlying9 (by kernel_rfl)) (Rd.readsF_one rfl rd43)))))))).iso (fun x : S87 => (x.f0, x.f1, x.f2, x.f3, x.f4, x.f5, x.f6)) (fun p_ => ⟨p_.1, p_.2.1, p_.2.2.1, p_.2.2.2.1, p_.2.2.2.2.1, p_.2.2.2.2.2.1, p_.2.2.2.2.2.2⟩) (fun _ => rfl)).imp (fun _ h_ => h_)
def clerestorylaw1_DomAll.Pure : Prop := ∀ (l0_0 : List (S43)) (a0_1 : Bool) (l1 : List (S87)), (fun l_ : List (S43) => l_.length * 96 ≤ reachBytes ∧ l_.length ≤ 9223372036854775807 ∧ ∀ a ∈ l_, ok43 a) l0_0 → (fun _ : Bool => True) a0_1 → (fun l_ : List (S87) => l_.length * 160 ≤ reachBytes ∧ l_.length ≤ 9223372036854775807 ∧ ∀ a ∈ l_, ok87 a) l1 → ∃ k, clerestorylaw1_DomAll.f k l0_0 a0_1 l1 = some true
end Go.Proofs.YthjnallbbhnndaaDoor.XDe
namespace Go.Proofs.YthjnallbbhnndaaDoor.Dm
open Go Go.RowKit Go.Proofs.YthjnallbbhnndaaDoor.XDe Go.Proofs.YthjnallbbhnndaaDoorW.PrintWords Go.Proofs.YthjnallbbhnndaaDoorW.PrintLast Go.Proofs.YthjnallbbhnndaaDoorW.PrintMore
set_option maxRecDepth 100000
theorem few_of_form (l0 : List S43) (q : Bool) (most : Int) (hm : 0 ≤ most ∧ most ≤ 1000) (hl : l0.length * 96 ≤ reachBytes ∧ l0.length ≤ 9223372036854775807 ∧ ∀ a ∈ l0, ok43 a) :
    ∃ ns, clerestorylaw1_few.f l0 q most = some (ns, q) ∧ (ns.length : Int) ≤ most ∧ SmallN ns ∧ KidsLe ns 17592186044416 := by
  obtain ⟨ns, hns⟩ : ∃ ns, l0.take (mn (l0.length : Int) most).toNat = ns := ⟨_, rfl⟩
  have hmn : 0 ≤ mn (l0.length : Int) most ∧ mn (l0.length : Int) most ≤ (l0.length : Int) ∧ mn (l0.length : Int) most ≤ most := by unfold mn; split <;> omega
  refine ⟨ns, ?_, by rw [← hns, List.length_take]; omega, ?_⟩
  · unfold clerestorylaw1_few.f
    rw [if_pos hmn.1, if_pos hmn.2.1, hns]
  have hok : ∀ a ∈ ns, ok43 a := fun a ha => hl.2.2 a (by rw [← hns] at ha; exact List.mem_of_mem_take ha)
  have hz : smallA (z43).f2 ∧ (z43).f1.size ≤ 140737488355328 ∧ (z43).f5.length ≤ 17592186044416 := ⟨fun x hx => by simp [z43] at hx, by decide, by decide⟩
  have hall : ∀ i : Int, smallA (q00 ns i).f2 ∧ (q00 ns i).f1.size ≤ 140737488355328 ∧ (q00 ns i).f5.length ≤ 17592186044416 := by
    intro i
    unfold q00
    by_cases c : i.toNat < ns.length
    · have e : ns.getD i.toNat z43 = ns[i.toNat] := by simp [List.getD, c]
      rw [e]
      obtain ⟨_, h1, h2, _, _, h5⟩ := hok _ (List.getElem_mem c)
      unfold reachBytes at h1 h2 h5
      refine ⟨fun x hx => ?_, by omega, by have := h5.1; omega⟩
      have := (h2.2.2 x hx).1
      unfold reachBytes at this
      omega
    · have e : ns.getD i.toNat z43 = z43 := by simp [List.getD, c]
      rw [e]
      exact hz
  exact ⟨fun i => ⟨(hall i).1, (hall i).2.1⟩, fun i => (hall i).2.2⟩
theorem both_check (ns : List S43) (q : Bool) (hS : SmallN ns) (hK : KidsLe ns 17592186044416) : ∃ K, ∀ k, K < k → dom_Check.f k ns q = some (docE ns) ∧ clerestoryref1_DocErr.f k ns q = some (docE ns) :=
  ⟨2 * ns.length + rounds ns 17592186044416, fun k hk => ⟨check_eq ns q hS 17592186044416 (by decide) hK k hk, docErr_eq ns q 17592186044416 (by decide) hK k hk⟩⟩
end Go.Proofs.YthjnallbbhnndaaDoor.Dm
namespace Go.Proofs.YthjnallbbhnndaaDoor.Pure
open Go Go.RowKit Go.Proofs.YthjnallbbhnndaaDoor.XDe Go.Proofs.YthjnallbbhnndaaDoor.Dm Go.Proofs.YthjnallbbhnndaaDoorW.PrintWords Go.Proofs.YthjnallbbhnndaaDoorW.PrintLast Go.Proofs.YthjnallbbhnndaaDoorW.PrintMore
set_option maxRecDepth 100000
theorem begunD : clerestorylaw1_domBegun.f 2000 = some true := by decide +kernel
theorem begunDK (k : Nat) (hk : 2000 ≤ k) : clerestorylaw1_domBegun.f k = some true := by
  have := more_rounds (g := fun k => clerestorylaw1_domBegun.f k) clerestorylaw1_domBegun.mono 2000 (k - 2000) _ begunD
  rw [show 2000 + (k - 2000) = k by omega] at this
  exact this
theorem sameNone (k : Nat) (hk : 2000 < k) (q : Bool) : clerestoryref1_SameDoc.f k ([] : List S43) q [] q = some true :=
  sameDoc_self [] q (by decide) (fun i => rd_all (P := small 1000) (small_z 1000) (fun y hy => by cases hy) i) k (by simp only [List.length_nil]; omega)
theorem sameOk {ns : List S43} (h : DocOk ns) (q : Bool) (k : Nat) (hk : 200000 < k) : clerestoryref1_SameDoc.f k ns q ns q = some true := by
  have hm := h.many
  exact sameDoc_self ns q (by omega) (fun i => rd_all (P := small 1000) (small_z 1000) (small_up (M' := 1000) (by omega) h.small) i) k (by omega)
theorem fits_of {ns : List S43} (h : DocOk ns) : ownFits ns = true := by
  unfold ownFits
  have := h.many
  rw [Bool.and_eq_true, List.all_eq_true]
  refine ⟨decide_eq_true (by omega), fun y hy => ?_⟩
  have := h.small y hy
  unfold small at this
  rw [Bool.and_eq_true]
  exact ⟨decide_eq_true (by omega), decide_eq_true (by omega)⟩
theorem edEdit_m {k : Nat} {ns a : List S43} {q : Bool} {b r : Int} (m : Int) {d n t2 bf : Int} {nm u : ByteArray} {x0 : Int} {x1 : ByteArray} {x2 : List S122} {x3 : ByteArray} {x4 : Int} {x5 : List Int}
    (h : q1i k ns q 0 d n t2 bf nm u x0 x1 x2 x3 x4 x5 = some (a, b, r)) : ∃ b', q1i k ns q m d n t2 bf nm u x0 x1 x2 x3 x4 x5 = some (a, b', r) := by
  unfold q1i at h ⊢
  have hB : ∀ (o : Option (List S43 × Int)), (o.bind fun p => some (p.1, (0 : Int), p.2)) = some (a, b, r) → ∃ b', (o.bind fun p => some (p.1, m, p.2)) = some (a, b', r) := fun o h => by
    obtain ⟨p, hp, h⟩ := Option.bind_eq_some_iff.1 h
    simp only [Option.some.injEq, Prod.mk.injEq] at h
    obtain ⟨rfl, -, rfl⟩ := h
    exact ⟨m, by rw [hp, Option.bind_some]⟩
  by_cases d1 : d = 1
  · rw [if_pos d1] at h ⊢; exact hB _ h
  rw [if_neg d1] at h ⊢
  by_cases d2 : d = 2
  · rw [if_pos d2] at h ⊢; exact hB _ h
  rw [if_neg d2] at h ⊢
  by_cases d3 : d = 3
  · rw [if_pos d3] at h ⊢
    simp only [Option.some.injEq, Prod.mk.injEq] at h ⊢
    exact ⟨m, h.1, rfl, h.2.2⟩
  rw [if_neg d3] at h ⊢
  by_cases d4 : d = 4
  · rw [if_pos d4] at h ⊢
    unfold edMake at h ⊢
    by_cases c1 : 0 < x5.length
    · rw [if_pos c1] at h ⊢
      simp only [Option.some.injEq, Prod.mk.injEq] at h ⊢
      exact ⟨m, h.1, rfl, h.2.2⟩
    rw [if_neg c1] at h ⊢
    by_cases c2 : x0 = 1
    · rw [if_pos c2] at h ⊢
      simp only [Option.some.injEq, Prod.mk.injEq] at h ⊢
      exact ⟨m, h.1, rfl, h.2.2⟩
    rw [if_neg c2] at h ⊢
    obtain ⟨t, ht, h⟩ := Option.bind_eq_some_iff.1 h
    rw [ht, Option.bind_some]
    by_cases c3 : t ≠ 0
    · rw [if_pos c3] at h ⊢
      simp only [Option.some.injEq, Prod.mk.injEq] at h ⊢
      exact ⟨m, h.1, rfl, h.2.2⟩
    rw [if_neg c3] at h ⊢
    by_cases c4 : ns.length = 200
    · rw [if_pos c4] at h ⊢
      simp only [Option.some.injEq, Prod.mk.injEq] at h ⊢
      exact ⟨m, h.1, rfl, h.2.2⟩
    rw [if_neg c4] at h ⊢
    exact ⟨b, h⟩
  rw [if_neg d4] at h ⊢
  by_cases d5 : d = 5
  · rw [if_pos d5] at h ⊢; exact hB _ h
  rw [if_neg d5] at h ⊢
  by_cases d6 : d = 6
  · rw [if_pos d6] at h ⊢; exact hB _ h
  rw [if_neg d6] at h ⊢
  simp only [Option.some.injEq, Prod.mk.injEq] at h ⊢
  exact ⟨m, h.1, rfl, h.2.2⟩
def Sized (e : S87) : Prop := e.f4.size ≤ 140737488355328 ∧ e.f6.f1.size ≤ 140737488355328 ∧ smallA e.f6.f2 ∧ e.f6.f2.length * 32 ≤ 140737488355328
theorem both_loop (k : Nat) (hk : 200000 < k) (q : Bool) (l : List S87) (hl : l.length ≤ 50) (hs : ∀ e ∈ l, Sized e) : ∀ (d : Nat) (i : Nat) (j : Nat) (ns : List S43) (m : Int), i + d = l.length → d < j → DocOk ns →
    ∃ (a : List S43) (p : Bool) (x r : Int), edAllL k q j i l ns m = some (a, p, x, r) ∧ edWholeL k j i l ns q = some (a, p, x, r) ∧ (DocOk a ∨ a = []) := by
  intro d
  induction d with
  | zero =>
    intro i j ns m hi hj hd
    obtain ⟨j, rfl⟩ : ∃ j', j = j' + 1 := ⟨j - 1, by omega⟩
    refine ⟨ns, q, 0, 0, ?_, ?_, .inl hd⟩
    · unfold edAllL; rw [if_neg (by omega)]
    · unfold edWholeL; rw [if_neg (by omega)]
  | succ d ih =>
    intro i j ns m hi hj hd
    obtain ⟨j, rfl⟩ : ∃ j', j = j' + 1 := ⟨j - 1, by omega⟩
    have hg : q06 l (i : Int) ∈ l := by
      have c : i < l.length := by omega
      have e : q06 l (i : Int) = l[i] := by simp [q06, List.getD, c]
      rw [e]
      exact List.getElem_mem c
    obtain ⟨s1, s2, s3, s4⟩ := hs _ hg
    unfold edAllL edWholeL
    rw [if_pos (by omega), if_pos (by omega), if_pos (by omega), if_pos (by omega)]
    generalize q06 l (i : Int) = e at s1 s2 s3 s4 ⊢
    obtain ⟨a, b, r, hp, hw⟩ := both_all hd q e.f0 e.f1 e.f2 e.f3 e.f4 e.f5 e.f6.f0 e.f6.f1 e.f6.f2 e.f6.f3 e.f6.f4 e.f6.f5 k hk s1 s2 s3 s4
    obtain ⟨b', hp'⟩ := edEdit_m m hp
    rw [hp', Option.bind_some]
    rcases hw with ⟨hr, hw⟩ | ⟨hr, hw, hok, hsm⟩
    · rw [hw, Option.bind_some]
      refine ⟨[], false, i, r, if_pos hr, if_pos hr, .inr rfl⟩
    · rw [hw, Option.bind_some]
      obtain ⟨a2, p2, x2, r2, g1, g2, g3⟩ := ih (i + 1) j a b' (by omega) (by omega) hok
      have hw1 : wrap64 ((i : Int) + 1) = ((i + 1 : Nat) : Int) := by unfold wrap64; omega
      refine ⟨a2, p2, x2, r2, ?_, ?_, g3⟩
      · show (if r ≠ 0 then _ else edAllL k q j (wrap64 ((i : Int) + 1)) l a b') = _
        rw [if_neg (by omega), hw1]; exact g1
      · show (if (0 : Int) ≠ 0 then _ else edWholeL k j (wrap64 ((i : Int) + 1)) l a q) = _
        rw [if_neg (by omega), hw1]; exact g2
theorem DomAll : clerestorylaw1_DomAll.Pure := by
  intro l0 q le hl _ hle
  obtain ⟨ns, hf, hn, hS, hK⟩ := few_of_form l0 q 60 (by omega) hl
  obtain ⟨K, hKk⟩ := both_check ns q hS hK
  obtain ⟨k, hkk⟩ : ∃ k, k = K + 200001 := ⟨_, rfl⟩
  refine ⟨k, ?_⟩
  obtain ⟨hc1, hc2⟩ := hKk k (by omega)
  have hs : ∀ e ∈ le.take 50, Sized e := fun e he => by
    obtain ⟨-, -, -, -, h4, -, h6⟩ := hle.2.2 e (List.mem_of_mem_take he)
    obtain ⟨-, h7, h8, -⟩ := h6
    have h4 : e.f4.size ≤ reachBytes := h4
    have h7 : e.f6.f1.size ≤ reachBytes := h7
    have h8 : e.f6.f2.length * 32 ≤ reachBytes ∧ e.f6.f2.length ≤ 9223372036854775807 ∧ ∀ a ∈ e.f6.f2, ok122 a := h8
    have h8s : smallA e.f6.f2 := fun x hx => by
      have := (h8.2.2 x hx).1
      have : x.f0.size ≤ reachBytes := this
      unfold reachBytes at this
      omega
    unfold reachBytes at h4 h7 h8
    exact ⟨by omega, by omega, h8s, by omega⟩
  have h50 : (le.take 50).length ≤ 50 := by rw [List.length_take]; omega
  unfold clerestorylaw1_DomAll.f
  rw [hf, Option.bind_some]
  generalize le.take 50 = l5 at hs h50 ⊢
  show ((dom_All.f k ns q l5).bind fun a => (clerestoryref1_EditedAll.f k ns q l5).bind _) = _
  have hW : ∃ (a : List S43) (p : Bool) (x r : Int), dom_All.f k ns q l5 = some (a, p, x, r) ∧ clerestoryref1_EditedAll.f k ns q l5 = some (a, p, x, r) ∧ (DocOk a ∨ a = []) := by
    unfold dom_All.f clerestoryref1_EditedAll.f
    rw [hc1, hc2, Option.bind_some, Option.bind_some]
    by_cases c : docE ns = 0
    · have hd := (docE_iff ns).1 c
      have c' : ¬ docE ns ≠ 0 := fun h_ => h_ c
      rw [if_neg c', if_neg c']
      by_cases c40 : 40 < l5.length
      · rw [if_pos c40, if_pos c40]
        exact ⟨[], false, 0, 2, rfl, rfl, .inr rfl⟩
      · rw [if_neg c40, if_neg c40, if_pos ⟨hd.some_, fits_of hd⟩]
        exact both_loop k (by omega) q l5 h50 hs l5.length 0 k ns 0 (by omega) (by omega) hd
    · rw [if_pos c, if_pos c]
      exact ⟨[], false, 0, _, rfl, rfl, .inr rfl⟩
  obtain ⟨a, p, x, r, h1, h2, h3⟩ := hW
  rw [h1, h2, Option.bind_some, Option.bind_some, begunDK k (by omega), Option.bind_some]
  show ((clerestoryref1_SameDoc.f k a p a p).bind _) = _
  have hS : clerestoryref1_SameDoc.f k a p a p = some true := by
    rcases h3 with h3 | rfl
    · exact sameOk h3 p k (by omega)
    · exact sameNone k (by omega) p
  rw [hS, Option.bind_some, if_pos ⟨rfl, rfl, rfl, rfl⟩]
end Go.Proofs.YthjnallbbhnndaaDoor.Pure
namespace Go.Proofs.YthjnallbbhnndaaDoor
open Go Go.Shelf Go.ChangeShapes Go.WideShapes Go.ChangeAt Go.RowKit Go.Lib
def lay2 : List (String × DataW Unit) := [("unicode/utf8.acceptRanges", Rows.laid_unicode_utf8_acceptRanges), ("unicode/utf8.first", Rows.laid_unicode_utf8_first)]
noncomputable def laidWorld (os : Os) : World :=
  let w0 := World.holding Tryd.prog os ⟨#[], #[], []⟩
  let put (h : Array Obj) (g : Nat) (cs : Array Value) : Array Obj := h.modify g fun
    | .cells _ t frozen => .cells cs t frozen
    | o => o
  let h1 := put w0.heap 1 (Lib.firstTab.map fun z => Value.int .u8 z).toArray
  let h2 := put h1 2 ((List.range 16).flatMap fun i => [Value.int .u8 (Lib.accLo i), Value.int .u8 (Lib.accHi i)]).toArray
  { w0 with heap := h2 }
theorem laid_met (os : Os) (args : Array Value) : laidMet Tryd.prog lay2 ((laidWorld os).forCall (fun _ _ => 0) ⟨#[], args, []⟩).memory :=
  (LaidIn.of_run (l := lay2) [2, 1] 8 (by kernel_rfl) (by kernel_rfl) (by kernel_rfl) (by kernel_rfl)).met
theorem own_ : ownKnob Tryd.prog.godebug = none := by kernel_rfl
theorem laidOut_ : laidOutB Tryd.prog = true := by kernel_rfl
end Go.Proofs.YthjnallbbhnndaaDoor
