/- Written by this session's program (wip/xp) out of the translation as Lean prints it: for each Go function a Lean function and the proof that the code answers just so, on the conditions named in each statement. -/
import Derived.Test.YtjlgbakdnenjhaaDoorXEn0
namespace Go.Proofs.YtjlgbakdnenjhaaDoor.XEn
open Go.RowKit Go.Proofs.YtjlgbakdnenjhaaDoorW.PrintWords Go.Proofs.YtjlgbakdnenjhaaDoorW.PrintLast Go.Proofs.YtjlgbakdnenjhaaDoorW.PrintMore
attribute [local go_sem] max2_int min2_int max_two min_two max_three min_three max_four min_four   -- for this text's walks alone
set_option linter.unusedVariables false
set_option linter.unusedSimpArgs false

/-! ### clerestorylaw1_some: function 5 -/
def clerestorylaw1_some.f (a0 : ByteArray) (a1 : Int) : Option (ByteArray) := if 0 ≤ (mn (a0.size : Int) a1) then (if (mn (a0.size : Int) a1) ≤ (a0.size : Int) then (some (a0.extract 0 ((mn (a0.size : Int) a1) : Int).toNat)) else (none)) else (none)
set_option maxHeartbeats 8000000 in
set_option maxRecDepth 100000 in
theorem clerestorylaw1_some.calls (a0 : ByteArray) (a1 : Int) (r : ByteArray) (w : World) (h : clerestorylaw1_some.f a0 a1 = some r) :
    Calls Tryd.prog 5 #[.string a0, .int .i64 a1] w fun e w' => e = .returned (.string r) ∧ Below w.heap.size w w' := by
  have HB := Aside0.mk (Below.refl w.heap.size w)
  have H : (if 0 ≤ (mn (a0.size : Int) a1) then (if (mn (a0.size : Int) a1) ≤ (a0.size : Int) then (some (a0.extract 0 ((mn (a0.size : Int) a1) : Int).toNat)) else (none)) else (none)) = some r := h
  clear h
  obtain ⟨ji3, hji3⟩ : ∃ j_ : Int, (mn (a0.size : Int) a1) = j_ := ⟨_, rfl⟩
  replace H : (if 0 ≤ (ji3) then (if (ji3) ≤ (a0.size : Int) then (some (a0.extract 0 ((ji3) : Int).toNat)) else (none)) else (none)) = some r := by first | (rw [hji3] at H; exact H) | (simp only [hji3] at H ⊢; exact H)
  have hji3_ : (if a1 < (a0.size : Int) then a1 else (a0.size : Int)) = ji3 := hji3
  by_cases c4 : 0 ≤ (ji3)
  · rw [if_pos c4] at H
    have c4b0 := eq_true c4
    have c4b1 : decide (0 ≤ (ji3)) = true := decide_eq_true c4
    clear c4
    by_cases c5 : (ji3) ≤ (a0.size : Int)
    · rw [if_pos c5] at H
      have c5b0 := eq_true c5
      have c5b1 : decide ((ji3) ≤ (a0.size : Int)) = true := decide_eq_true c5
      clear c5
      obtain rfl := Option.some.inj H
      go_enter Tryd.func5, Tryd.ntmps5
      go_wp2
      go_ret
      exact ⟨by first | rfl | (simp [errW_none, errW_some] <;> rfl) | (simp only [← hji3]; first | rfl | (simp [errW_none, errW_some] <;> rfl)) | (simp [*, errW_none, errW_some] <;> rfl), by repeat (first | (with_reducible first | exact HB.out | apply below_alloc | apply pw_below_drewN | apply below_drew1) | exact HB.out)⟩
    · rw [if_neg c5] at H
      exact absurd H (by simp)
  · rw [if_neg c4] at H
    exact absurd H (by simp)

/-! ### entity_digit: function 47 -/
mutual
def entity_digit.j0 : Nat → Int → Int → Int → Bool → Option (Int)
  | 0, _, _, _, _ => none
  | k + 1, x0, x1, x5, x6 => if x6 = true then (if ((x0 - 48) % 256) ≥ x1 then (some (-1)) else (some ((x0 - 48) % 256))) else (if (Go.bits .or .u8 x0 32) ≥ 97 then (entity_digit.j1 k x0 x1 x5 (decide ((Go.bits .or .u8 x0 32) ≤ 102))) else (entity_digit.j1 k x0 x1 x5 false))
def entity_digit.j1 : Nat → Int → Int → Int → Bool → Option (Int)
  | 0, _, _, _, _ => none
  | k + 1, x0, x1, x5, x16 => if x16 = true then (if ((((Go.bits .or .u8 x0 32) - 97) % 256) + 10) ≥ x1 then (some (-1)) else (some ((((Go.bits .or .u8 x0 32) - 97) % 256) + 10))) else (if x5 ≥ x1 then (some (-1)) else (some x5))
end
def entity_digit.f (k : Nat) (a0 : Int) (a1 : Int) : Option (Int) := if a0 ≥ 48 then (entity_digit.j0 k a0 a1 (-1) (decide (a0 ≤ 57))) else (entity_digit.j0 k a0 a1 (-1) false)
theorem entity_digit.mono_l : ∀ k, (∀ y0 y1 y2 y3, LeO (entity_digit.j0 k y0 y1 y2 y3) (entity_digit.j0 (k + 1) y0 y1 y2 y3)) ∧ (∀ y0 y1 y2 y3, LeO (entity_digit.j1 k y0 y1 y2 y3) (entity_digit.j1 (k + 1) y0 y1 y2 y3))
  | 0 => ⟨fun _ _ _ _ r h => by simp [entity_digit.j0] at h, fun _ _ _ _ r h => by simp [entity_digit.j1] at h⟩
  | k + 1 => by
    obtain ⟨ih0, ih1⟩ := entity_digit.mono_l k
    refine ⟨?_, ?_⟩
    · intro y0 y1 y2 y3
      unfold entity_digit.j0
      repeat' first
      | (with_reducible exact ih0 _ _ _ _)
      | (with_reducible exact ih1 _ _ _ _)
      | (with_reducible exact LeO.refl _)
      | (with_reducible exact LeO.none _)
      | (with_reducible refine LeO.ite ?_ ?_)
      | (with_reducible refine LeO.bind ?_ (fun _ => ?_))
      | exact ih0 _ _ _ _
      | exact ih1 _ _ _ _
      | exact LeO.none _
      | refine LeO.ite ?_ ?_
      | refine LeO.bind ?_ (fun _ => ?_)
    · intro y0 y1 y2 y3
      unfold entity_digit.j1
      repeat' first
      | (with_reducible exact ih0 _ _ _ _)
      | (with_reducible exact ih1 _ _ _ _)
      | (with_reducible exact LeO.refl _)
      | (with_reducible exact LeO.none _)
      | (with_reducible refine LeO.ite ?_ ?_)
      | (with_reducible refine LeO.bind ?_ (fun _ => ?_))
      | exact ih0 _ _ _ _
      | exact ih1 _ _ _ _
      | exact LeO.none _
      | refine LeO.ite ?_ ?_
      | refine LeO.bind ?_ (fun _ => ?_)
theorem entity_digit.mono : ∀ a0 a1 k, LeO (entity_digit.f k a0 a1) (entity_digit.f (k + 1) a0 a1) := by
  intro a0 a1 k
  obtain ⟨ih0, ih1⟩ := entity_digit.mono_l k
  unfold entity_digit.f
  repeat' first
      | (with_reducible exact ih0 _ _ _ _)
      | (with_reducible exact ih1 _ _ _ _)
      | (with_reducible exact LeO.refl _)
      | (with_reducible exact LeO.none _)
      | (with_reducible refine LeO.ite ?_ ?_)
      | (with_reducible refine LeO.bind ?_ (fun _ => ?_))
      | exact ih0 _ _ _ _
      | exact ih1 _ _ _ _
      | exact LeO.none _
      | refine LeO.ite ?_ ?_
      | refine LeO.bind ?_ (fun _ => ?_)
set_option maxHeartbeats 8000000 in
set_option maxRecDepth 100000 in
theorem entity_digit.calls (k : Nat) (a0 : Int) (a1 : Int) (r : Int) (w : World) (h : entity_digit.f k a0 a1 = some r) :
    Calls Tryd.prog 47 #[.int .u8 a0, .int .i64 a1] w fun e w' => e = .returned (.int .i64 r) ∧ Drawn0 w w' := by
  have H : (if a0 ≥ 48 then (entity_digit.j0 k a0 a1 (-1) (decide (a0 ≤ 57))) else (entity_digit.j0 k a0 a1 (-1) false)) = some r := h
  clear h
  have HC3 := Aside0.mk H
  clear H
  go_enter Tryd.func47, Tryd.ntmps47
  go_upto_region 2 with (fail)
  go_cut [6] (fun v6 wc => ∃ (kq : Nat) (x6_2 : Bool), v6 = .bool x6_2 ∧ Aside0 (entity_digit.j0 kq a0 a1 (-1) x6_2 = some r) ∧ Aside0 (kq ≤ k) ∧ Drawn0 w wc)
  case first =>
    have H := HC3.out
    clear HC3
    by_cases c4 : a0 ≥ 48
    · rw [if_pos c4] at H
      have c4b0 : decide (48 ≤ a0) = true := decide_eq_true c4
      clear c4
      (first | rw [c4b0] | (simp only [i64_w, i32_w]; rw [c4b0]) | skip)
      have H' := Aside0.mk H
      clear H
      go_wp2
      go_meet
      case rel => exact ⟨_, (decide (a0 ≤ 57)), (by first | rfl | (simp; done) | (simp [*]; done)), H', ⟨by first | omega | exact Nat.le_refl _⟩, by repeat (first | exact Drawn0.refl _ | apply Drawn0.step)⟩
    · rw [if_neg c4] at H
      have c4b0 : decide (48 ≤ a0) = false := decide_eq_false c4
      clear c4
      (first | rw [c4b0] | (simp only [i64_w, i32_w]; rw [c4b0]) | skip)
      have H' := Aside0.mk H
      clear H
      go_wp2
      go_meet
      case rel => exact ⟨_, (false), (by first | rfl | (simp; done) | (simp [*]; done)), H', ⟨by first | omega | exact Nat.le_refl _⟩, by repeat (first | exact Drawn0.refl _ | apply Drawn0.step)⟩
  case rest =>
    clear HC3
    try clear p2
    try clear c4
    try clear c4b0
    obtain ⟨kq, x6_2, rfl, HA, HJ2, ⟨mc2, rfl⟩⟩ := hcut
    cases kq with
    | zero => exact absurd HA.out (by simp [entity_digit.j0])
    | succ kj2 =>
      have H := HA.out
      clear HA
      simp only [entity_digit.j0] at H
      by_cases c5 : x6_2 = true
      · subst c5
        have H1 : (if ((a0 - 48) % 256) ≥ a1 then (some (-1)) else (some ((a0 - 48) % 256))) = some r := by rw [if_pos rfl] at H; exact H
        clear H
        have H := H1
        clear H1
        by_cases c6 : ((a0 - 48) % 256) ≥ a1
        · rw [if_pos c6] at H
          have c6b0 : decide (a1 ≤ ((a0 - 48) % 256)) = true := decide_eq_true c6
          clear c6
          obtain rfl := Option.some.inj H
          go_wp2
          go_ret
          exact ⟨by first | rfl | (simp; done) | (simp [*]; done), by repeat (first | exact Drawn0.refl _ | apply Drawn0.step)⟩
        · rw [if_neg c6] at H
          have c6b0 : decide (a1 ≤ ((a0 - 48) % 256)) = false := decide_eq_false c6
          clear c6
          obtain rfl := Option.some.inj H
          go_wp2
          go_ret
          exact ⟨by first | rfl | (simp; done) | (simp [*]; done), by repeat (first | exact Drawn0.refl _ | apply Drawn0.step)⟩
      · replace c5 := Bool.eq_false_iff.mpr c5
        subst c5
        have H1 : (if (Go.bits .or .u8 a0 32) ≥ 97 then (entity_digit.j1 kj2 a0 a1 (-1) (decide ((Go.bits .or .u8 a0 32) ≤ 102))) else (entity_digit.j1 kj2 a0 a1 (-1) false)) = some r := by rw [if_neg (show ¬ (false = true) by decide)] at H; exact H
        clear H
        have H := H1
        clear H1
        have HC7 := Aside0.mk H
        clear H
        go_upto_region 4 with (fail)
        go_cut [16] (fun v16 wc => ∃ (kq : Nat) (x16_6 : Bool), v16 = .bool x16_6 ∧ Aside0 (entity_digit.j1 kq a0 a1 (-1) x16_6 = some r) ∧ Aside0 (kq ≤ kj2) ∧ Drawn0 w wc)
        case first =>
          have H := HC7.out
          clear HC7
          by_cases c8 : (Go.bits .or .u8 a0 32) ≥ 97
          · rw [if_pos c8] at H
            have c8b0 : decide (97 ≤ (Go.bits .or .u8 a0 32)) = true := decide_eq_true c8
            clear c8
            (first | rw [c8b0] | (simp only [i64_w, i32_w]; rw [c8b0]) | skip)
            have H' := Aside0.mk H
            clear H
            go_wp2
            go_meet
            case rel => exact ⟨_, (decide ((Go.bits .or .u8 a0 32) ≤ 102)), (by first | rfl | (simp; done) | (simp [*]; done)), H', ⟨by have := HJ2.out; first | omega | exact Nat.le_refl _⟩, by repeat (first | exact Drawn0.refl _ | apply Drawn0.step)⟩
          · rw [if_neg c8] at H
            have c8b0 : decide (97 ≤ (Go.bits .or .u8 a0 32)) = false := decide_eq_false c8
            clear c8
            (first | rw [c8b0] | (simp only [i64_w, i32_w]; rw [c8b0]) | skip)
            have H' := Aside0.mk H
            clear H
            go_wp2
            go_meet
            case rel => exact ⟨_, (false), (by first | rfl | (simp; done) | (simp [*]; done)), H', ⟨by have := HJ2.out; first | omega | exact Nat.le_refl _⟩, by repeat (first | exact Drawn0.refl _ | apply Drawn0.step)⟩
        case rest =>
          clear HC7
          try clear c2
          try clear p2
          try clear c4
          try clear c4b0
          try clear c5
          try clear c6
          try clear c6b0
          try clear c8
          try clear c8b0
          try clear p2
          obtain ⟨kq, x16_6, rfl, HA, HJ6, ⟨mc6, rfl⟩⟩ := hcut
          cases kq with
          | zero => exact absurd HA.out (by simp [entity_digit.j1])
          | succ kj6 =>
            have H := HA.out
            clear HA
            simp only [entity_digit.j1] at H
            by_cases c9 : x16_6 = true
            · subst c9
              have H1 : (if ((((Go.bits .or .u8 a0 32) - 97) % 256) + 10) ≥ a1 then (some (-1)) else (some ((((Go.bits .or .u8 a0 32) - 97) % 256) + 10))) = some r := by rw [if_pos rfl] at H; exact H
              clear H
              have H := H1
              clear H1
              by_cases c10 : ((((Go.bits .or .u8 a0 32) - 97) % 256) + 10) ≥ a1
              · rw [if_pos c10] at H
                have c10b0 : decide (a1 ≤ ((((Go.bits .or .u8 a0 32) - 97) % 256) + 10)) = true := decide_eq_true c10
                clear c10
                obtain rfl := Option.some.inj H
                go_wp2
                go_ret
                exact ⟨by first | rfl | (simp; done) | (simp [*]; done), by repeat (first | exact Drawn0.refl _ | apply Drawn0.step)⟩
              · rw [if_neg c10] at H
                have c10b0 : decide (a1 ≤ ((((Go.bits .or .u8 a0 32) - 97) % 256) + 10)) = false := decide_eq_false c10
                clear c10
                obtain rfl := Option.some.inj H
                go_wp2
                go_ret
                exact ⟨by first | rfl | (simp; done) | (simp [*]; done), by repeat (first | exact Drawn0.refl _ | apply Drawn0.step)⟩
            · replace c9 := Bool.eq_false_iff.mpr c9
              subst c9
              have H1 : (if (-1) ≥ a1 then (some (-1)) else (some (-1))) = some r := by rw [if_neg (show ¬ (false = true) by decide)] at H; exact H
              clear H
              have H := H1
              clear H1
              by_cases c11 : (-1) ≥ a1
              · rw [if_pos c11] at H
                have c11b0 : decide (a1 ≤ (-1)) = true := decide_eq_true c11
                clear c11
                obtain rfl := Option.some.inj H
                go_wp2
                go_ret
                exact ⟨by first | rfl | (simp; done) | (simp [*]; done), by repeat (first | exact Drawn0.refl _ | apply Drawn0.step)⟩
              · rw [if_neg c11] at H
                have c11b0 : decide (a1 ≤ (-1)) = false := decide_eq_false c11
                clear c11
                obtain rfl := Option.some.inj H
                go_wp2
                go_ret
                exact ⟨by first | rfl | (simp; done) | (simp [*]; done), by repeat (first | exact Drawn0.refl _ | apply Drawn0.step)⟩

/-! ### chars_Encode: function 7, given -/
def chars_Encode.f (l0 : List Int) : Option (ByteArray) := if l0.length ≤ 17592186044416 ∧ l0.all (fun x => decide (-2147483648 ≤ x ∧ x ≤ 2147483647)) = true then some ⟨(Ch.bytesOfSigns l0).toArray⟩ else none
theorem chars_Encode.calls (A0 : Option Addr) (c0 : Nat) (l0 : List Int) (r : ByteArray) (w : World) (hr0 : Kd.C (Kd.int .i32) w A0 l0.length l0) (hc0 : l0.length ≤ c0) (h : chars_Encode.f l0 = some r) :
    Calls Tryd.prog 7 #[.slice A0 l0.length c0] w fun e w' => e = .returned (.string r) ∧ Below w.heap.size w w' := by
  unfold chars_Encode.f at h
  split at h
  · rename_i hs
    obtain rfl := Option.some.inj h
    exact Ch.encode_ok A0 c0 l0 w hr0 (fun r hr => of_decide_eq_true (List.all_eq_true.1 hs.2 r hr)) hs.1
  · cases h

/-! ### entity_sign: function 48 -/
def entity_sign.f (a0 : Int) : Option (ByteArray) := if a0 = 0 then ((chars_Encode.f (([65533] : List Int))).bind fun t104 => (some t104)) else (if a0 = 13 then ((chars_Encode.f (([65533] : List Int))).bind fun t108 => (some t108)) else ((chars_Encode.f (([wrap32 (a0)] : List Int))).bind fun t112 => (some t112)))
set_option maxHeartbeats 8000000 in
set_option maxRecDepth 100000 in
theorem entity_sign.calls (a0 : Int) (r : ByteArray) (w : World) (h : entity_sign.f a0 = some r) :
    Calls Tryd.prog 48 #[.int .i64 a0] w fun e w' => e = .returned (.string r) ∧ Below w.heap.size w w' := by
  have HB := Aside0.mk (Below.refl w.heap.size w)
  have H : (if a0 = 0 then ((chars_Encode.f (([65533] : List Int))).bind fun t104 => (some t104)) else (if a0 = 13 then ((chars_Encode.f (([65533] : List Int))).bind fun t108 => (some t108)) else ((chars_Encode.f (([wrap32 (a0)] : List Int))).bind fun t112 => (some t112)))) = some r := h
  clear h
  by_cases c2 : a0 = 0
  · rw [if_pos c2] at H
    have c2b0 : (a0 == 0) = true := beq_iff_eq.mpr c2
    have c2b1 : (a0 != 0) = false := bne_eq_false_iff_eq.mpr c2
    clear c2
    obtain ⟨y101, hy101⟩ : ∃ y_ : List Int, y_ = (([65533] : List Int)) := ⟨_, rfl⟩
    replace H : ((chars_Encode.f y101).bind fun t104 => (some t104)) = some r := by first | (rw [hy101]; with_reducible exact H) | (have H2_ := (Option.bind_some _ _).symm.trans H; rw [hy101]; with_reducible exact H2_) | (have H2_ := (Option.bind_some _ _).symm.trans H; with_reducible exact H2_) | with_reducible exact H | (rw [hy101]; exact H) | exact H
    have Ny101 := Aside0.mk hy101
    clear hy101
    replace H := Option.bind_eq_some_iff.mp H
    obtain ⟨t104, A30, H⟩ := H
    replace H : (some t104) = some r := H
    have A3 := Aside0.mk A30
    clear A30
    obtain rfl := Option.some.inj H
    go_enter Tryd.func48, Tryd.ntmps48
    go_wp2_with (first | ((with_reducible refine gate_dst (N := 11) rfl ?_); refine Kd.R_lit (Kd.int .i32) _ 21 ?hg (N := 11) ?hd (xs := ([65533] : List Int)) (inner := [.int .i32 65533]) (ok := fun _ => True) (okp := fun _ => True) ?hr ?hp (fun _ hk => hk) trivial (Below.refl _ _) (Nat.le_refl _) (by simp) ?_; (case hd => rfl); (case hg => rfl); (case hr => first | (go_simp; done) | (go_simp; rfl)); (case hp => exact (Reps.one (show Kd.M (Kd.int .i32) _ _ _ 65533 [.int .i32 65533] from rfl) (Reps.none _ _))); intro v102 w4 ho5 hb hg_ hnew_; clear hg_ hnew_; (first | rw [← Ny101.out] at ho5 | (simp only [Int.reduceToNat] at ho5; rw [← Ny101.out] at ho5)); have n0_ := Aside0.mk (Kd.R_lower ho5 (below_size (by repeat (first | (with_reducible first | exact HB.out | apply below_alloc | apply pw_below_drewN | apply below_drew1) | exact HB.out)))); have n1_ := Aside0.mk (below_step (by repeat (first | (with_reducible first | exact HB.out | apply below_alloc | apply pw_below_drewN | apply below_drew1) | exact HB.out)) hb); clear HB; have HO103 := n0_; have HB := n1_; clear n0_ n1_; clear hb ho5; obtain ⟨Ao6, co6, eo6⟩ := Kd.R_slice HO103.out; subst eo6) | ((with_reducible refine gate_callee (f := 7) rfl ?_); refine goesL_ (some 12) rfl rfl Tryd.func7 (by kernel_rfl) rfl #[.slice Ao6 y101.length co6] rfl (by (try simp only [List.map_toArray, List.map_cons, List.map_nil]); first | done | rfl | (simp only [List.length_drop, List.length_take]; rfl)) ?_; (with_reducible refine (chars_Encode.calls _ _ y101 t104 _ ?side1 ?side2 A3.out).mono ?_); (case side1 => repeat (first | exact (Kd.R_reads' HO103.out).2.2 | (with_reducible refine Kd.C_alloc ?_ _) | (with_reducible refine Kd.C_drewN ?_ _) | (with_reducible refine Kd.C_drew ?_))); (case side2 => exact (Kd.R_reads' HO103.out).2.1); rintro e w7 ⟨rfl, hb⟩; refine ⟨_, rfl, ?_⟩; have n0_ := Aside0.mk (Kd.R_below (by (with_reducible repeat (first | apply Kd.R_alloc | apply Kd.R_drewN | apply Kd.R_drew)); exact HO103.out) hb); have n1_ := Aside0.mk (below_step (by repeat (first | (with_reducible first | exact HB.out | apply below_alloc | apply pw_below_drewN | apply below_drew1) | exact HB.out)) hb); clear HO103; clear HB; have HO103 := n0_; have HB := n1_; clear n0_ n1_; (try clear hb); (try clear hb2); (try clear hk); (try clear hi)))
    go_ret
    exact ⟨by first | rfl | (simp [errW_none, errW_some] <;> rfl) | (simp [*, errW_none, errW_some] <;> rfl), by repeat (first | (with_reducible first | exact HB.out | apply below_alloc | apply pw_below_drewN | apply below_drew1) | exact HB.out)⟩
  · rw [if_neg c2] at H
    have c2b0 : (a0 == 0) = false := beq_eq_false_iff_ne.mpr c2
    have c2b1 : (a0 != 0) = true := bne_iff_ne.mpr c2
    by_cases c8 : a0 = 13
    · rw [if_pos c8] at H
      have c8b0 : (a0 == 13) = true := beq_iff_eq.mpr c8
      have c8b1 : (a0 != 13) = false := bne_eq_false_iff_eq.mpr c8
      clear c8
      obtain ⟨y105, hy105⟩ : ∃ y_ : List Int, y_ = (([65533] : List Int)) := ⟨_, rfl⟩
      replace H : ((chars_Encode.f y105).bind fun t108 => (some t108)) = some r := by first | (rw [hy105]; with_reducible exact H) | (have H2_ := (Option.bind_some _ _).symm.trans H; rw [hy105]; with_reducible exact H2_) | (have H2_ := (Option.bind_some _ _).symm.trans H; with_reducible exact H2_) | with_reducible exact H | (rw [hy105]; exact H) | exact H
      have Ny105 := Aside0.mk hy105
      clear hy105
      replace H := Option.bind_eq_some_iff.mp H
      obtain ⟨t108, A90, H⟩ := H
      replace H : (some t108) = some r := H
      have A9 := Aside0.mk A90
      clear A90
      obtain rfl := Option.some.inj H
      go_enter Tryd.func48, Tryd.ntmps48
      go_wp2_with (first | ((with_reducible refine gate_dst (N := 11) rfl ?_); refine Kd.R_lit (Kd.int .i32) _ 21 ?hg (N := 11) ?hd (xs := ([65533] : List Int)) (inner := [.int .i32 65533]) (ok := fun _ => True) (okp := fun _ => True) ?hr ?hp (fun _ hk => hk) trivial (Below.refl _ _) (Nat.le_refl _) (by simp) ?_; (case hd => rfl); (case hg => rfl); (case hr => first | (go_simp; done) | (go_simp; rfl)); (case hp => exact (Reps.one (show Kd.M (Kd.int .i32) _ _ _ 65533 [.int .i32 65533] from rfl) (Reps.none _ _))); intro v106 w10 ho11 hb hg_ hnew_; clear hg_ hnew_; (first | rw [← Ny105.out] at ho11 | (simp only [Int.reduceToNat] at ho11; rw [← Ny105.out] at ho11)); have n0_ := Aside0.mk (Kd.R_lower ho11 (below_size (by repeat (first | (with_reducible first | exact HB.out | apply below_alloc | apply pw_below_drewN | apply below_drew1) | exact HB.out)))); have n1_ := Aside0.mk (below_step (by repeat (first | (with_reducible first | exact HB.out | apply below_alloc | apply pw_below_drewN | apply below_drew1) | exact HB.out)) hb); clear HB; have HO107 := n0_; have HB := n1_; clear n0_ n1_; clear hb ho11; obtain ⟨Ao12, co12, eo12⟩ := Kd.R_slice HO107.out; subst eo12) | ((with_reducible refine gate_callee (f := 7) rfl ?_); refine goesL_ (some 12) rfl rfl Tryd.func7 (by kernel_rfl) rfl #[.slice Ao12 y105.length co12] rfl (by (try simp only [List.map_toArray, List.map_cons, List.map_nil]); first | done | rfl | (simp only [List.length_drop, List.length_take]; rfl)) ?_; (with_reducible refine (chars_Encode.calls _ _ y105 t108 _ ?side1 ?side2 A9.out).mono ?_); (case side1 => repeat (first | exact (Kd.R_reads' HO107.out).2.2 | (with_reducible refine Kd.C_alloc ?_ _) | (with_reducible refine Kd.C_drewN ?_ _) | (with_reducible refine Kd.C_drew ?_))); (case side2 => exact (Kd.R_reads' HO107.out).2.1); rintro e w13 ⟨rfl, hb⟩; refine ⟨_, rfl, ?_⟩; have n0_ := Aside0.mk (Kd.R_below (by (with_reducible repeat (first | apply Kd.R_alloc | apply Kd.R_drewN | apply Kd.R_drew)); exact HO107.out) hb); have n1_ := Aside0.mk (below_step (by repeat (first | (with_reducible first | exact HB.out | apply below_alloc | apply pw_below_drewN | apply below_drew1) | exact HB.out)) hb); clear HO107; clear HB; have HO107 := n0_; have HB := n1_; clear n0_ n1_; (try clear hb); (try clear hb2); (try clear hk); (try clear hi)))
      go_ret
      exact ⟨by first | rfl | (simp [errW_none, errW_some] <;> rfl) | (simp [*, errW_none, errW_some] <;> rfl), by repeat (first | (with_reducible first | exact HB.out | apply below_alloc | apply pw_below_drewN | apply below_drew1) | exact HB.out)⟩
    · rw [if_neg c8] at H
      have c8b0 : (a0 == 13) = false := beq_eq_false_iff_ne.mpr c8
      have c8b1 : (a0 != 13) = true := bne_iff_ne.mpr c8
      obtain ⟨y109, hy109⟩ : ∃ y_ : List Int, y_ = (([wrap32 (a0)] : List Int)) := ⟨_, rfl⟩
      replace H : ((chars_Encode.f y109).bind fun t112 => (some t112)) = some r := by first | (rw [hy109]; with_reducible exact H) | (have H2_ := (Option.bind_some _ _).symm.trans H; rw [hy109]; with_reducible exact H2_) | (have H2_ := (Option.bind_some _ _).symm.trans H; with_reducible exact H2_) | with_reducible exact H | (rw [hy109]; exact H) | exact H
      have Ny109 := Aside0.mk hy109
      clear hy109
      replace H := Option.bind_eq_some_iff.mp H
      obtain ⟨t112, A140, H⟩ := H
      replace H : (some t112) = some r := H
      have A14 := Aside0.mk A140
      clear A140
      obtain rfl := Option.some.inj H
      go_enter Tryd.func48, Tryd.ntmps48
      go_wp2_with (first | ((with_reducible refine gate_dst (N := 11) rfl ?_); refine Kd.R_lit (Kd.int .i32) _ 21 ?hg (N := 11) ?hd (xs := ([wrap32 (a0)] : List Int)) (inner := [.int .i32 (wrap32 (a0))]) (ok := fun _ => True) (okp := fun _ => True) ?hr ?hp (fun _ hk => hk) trivial (Below.refl _ _) (Nat.le_refl _) (by simp) ?_; (case hd => rfl); (case hg => rfl); (case hr => first | (go_simp; done) | (go_simp; rfl)); (case hp => exact (Reps.one (show Kd.M (Kd.int .i32) _ _ _ (wrap32 (a0)) [.int .i32 (wrap32 (a0))] from rfl) (Reps.none _ _))); intro v110 w15 ho16 hb hg_ hnew_; clear hg_ hnew_; (first | rw [← Ny109.out] at ho16 | (simp only [Int.reduceToNat] at ho16; rw [← Ny109.out] at ho16)); have n0_ := Aside0.mk (Kd.R_lower ho16 (below_size (by repeat (first | (with_reducible first | exact HB.out | apply below_alloc | apply pw_below_drewN | apply below_drew1) | exact HB.out)))); have n1_ := Aside0.mk (below_step (by repeat (first | (with_reducible first | exact HB.out | apply below_alloc | apply pw_below_drewN | apply below_drew1) | exact HB.out)) hb); clear HB; have HO111 := n0_; have HB := n1_; clear n0_ n1_; clear hb ho16; obtain ⟨Ao17, co17, eo17⟩ := Kd.R_slice HO111.out; subst eo17) | ((with_reducible refine gate_callee (f := 7) rfl ?_); refine goesL_ (some 12) rfl rfl Tryd.func7 (by kernel_rfl) rfl #[.slice Ao17 y109.length co17] rfl (by (try simp only [List.map_toArray, List.map_cons, List.map_nil]); first | done | rfl | (simp only [List.length_drop, List.length_take]; rfl)) ?_; (with_reducible refine (chars_Encode.calls _ _ y109 t112 _ ?side1 ?side2 A14.out).mono ?_); (case side1 => repeat (first | exact (Kd.R_reads' HO111.out).2.2 | (with_reducible refine Kd.C_alloc ?_ _) | (with_reducible refine Kd.C_drewN ?_ _) | (with_reducible refine Kd.C_drew ?_))); (case side2 => exact (Kd.R_reads' HO111.out).2.1); rintro e w18 ⟨rfl, hb⟩; refine ⟨_, rfl, ?_⟩; have n0_ := Aside0.mk (Kd.R_below (by (with_reducible repeat (first | apply Kd.R_alloc | apply Kd.R_drewN | apply Kd.R_drew)); exact HO111.out) hb); have n1_ := Aside0.mk (below_step (by repeat (first | (with_reducible first | exact HB.out | apply below_alloc | apply pw_below_drewN | apply below_drew1) | exact HB.out)) hb); clear HO111; clear HB; have HO111 := n0_; have HB := n1_; clear n0_ n1_; (try clear hb); (try clear hb2); (try clear hk); (try clear hi)))
      go_ret
      exact ⟨by first | rfl | (simp [errW_none, errW_some] <;> rfl) | (simp [*, errW_none, errW_some] <;> rfl), by repeat (first | (with_reducible first | exact HB.out | apply below_alloc | apply pw_below_drewN | apply below_drew1) | exact HB.out)⟩

/-! ### entity_semicolon: function 49 -/
def entity_semicolon.f (a0 : ByteArray) (a1 : Int) : Option (Int) := if a1 < (a0.size : Int) then (if 0 ≤ a1 then (if (bt a0 a1) = 59 then (some (wrap64 (a1 + 1))) else (some a1)) else (none)) else (some a1)
set_option maxHeartbeats 8000000 in
set_option maxRecDepth 100000 in
theorem entity_semicolon.calls (a0 : ByteArray) (a1 : Int) (r : Int) (w : World) (h : entity_semicolon.f a0 a1 = some r) :
    Calls Tryd.prog 49 #[.string a0, .int .i64 a1] w fun e w' => e = .returned (.int .i64 r) ∧ Drawn0 w w' := by
  have H : (if a1 < (a0.size : Int) then (if 0 ≤ a1 then (if (bt a0 a1) = 59 then (some (wrap64 (a1 + 1))) else (some a1)) else (none)) else (some a1)) = some r := h
  clear h
  by_cases c3 : a1 < (a0.size : Int)
  · rw [if_pos c3] at H
    have c3b0 : decide (a1 < (a0.size : Int)) = true := decide_eq_true c3
    clear c3
    by_cases c4 : 0 ≤ a1
    · rw [if_pos c4] at H
      have c4b0 : decide (0 ≤ a1) = true := decide_eq_true c4
      clear c4
      by_cases c6 : (bt a0 a1) = 59
      · rw [if_pos c6] at H
        have c6b0 : ((bt a0 a1) == 59) = true := beq_iff_eq.mpr c6
        have c6b1 : ((bt a0 a1) != 59) = false := bne_eq_false_iff_eq.mpr c6
        clear c6
        obtain rfl := Option.some.inj H
        have p5 : 0 ≤ (a1 : Int) := of_decide_eq_true (by first | (with_reducible assumption) | assumption)
        have q5 : a1 < (a0.size : Int) := of_decide_eq_true (by first | (with_reducible assumption) | assumption)
        have hx5 := bt_at a0 a1
        replace p5 := eq_true p5
        replace q5 := eq_true q5
        go_enter Tryd.func49, Tryd.ntmps49
        go_wp2
        go_ret
        exact ⟨by first | rfl | (simp; done) | (simp [*]; done), by repeat (first | exact Drawn0.refl _ | apply Drawn0.step)⟩
      · rw [if_neg c6] at H
        have c6b0 : ((bt a0 a1) == 59) = false := beq_eq_false_iff_ne.mpr c6
        have c6b1 : ((bt a0 a1) != 59) = true := bne_iff_ne.mpr c6
        obtain rfl := Option.some.inj H
        have p5 : 0 ≤ (a1 : Int) := of_decide_eq_true (by first | (with_reducible assumption) | assumption)
        have q5 : a1 < (a0.size : Int) := of_decide_eq_true (by first | (with_reducible assumption) | assumption)
        have hx5 := bt_at a0 a1
        replace p5 := eq_true p5
        replace q5 := eq_true q5
        go_enter Tryd.func49, Tryd.ntmps49
        go_wp2
        go_ret
        exact ⟨by first | rfl | (simp; done) | (simp [*]; done), by repeat (first | exact Drawn0.refl _ | apply Drawn0.step)⟩
    · rw [if_neg c4] at H
      exact absurd H (by simp)
  · rw [if_neg c3] at H
    have c3b0 : decide (a1 < (a0.size : Int)) = false := decide_eq_false c3
    clear c3
    obtain rfl := Option.some.inj H
    go_enter Tryd.func49, Tryd.ntmps49
    go_wp2
    go_ret
    exact ⟨by first | rfl | (simp; done) | (simp [*]; done), by repeat (first | exact Drawn0.refl _ | apply Drawn0.step)⟩

/-! ### entity_number: function 37 -/
mutual
def entity_number.j0 : Nat → ByteArray → Int → Int → Bool → Option (ByteArray × Int)
  | 0, _, _, _, _ => none
  | k + 1, x0, x4, x5, x16 => if x16 = true then (entity_number.j1 k x0 16 3) else (entity_number.j1 k x0 x4 x5)
def entity_number.j1 : Nat → ByteArray → Int → Int → Option (ByteArray × Int)
  | 0, _, _, _ => none
  | k + 1, x0, x4, x5 => entity_number.l0 k x0 x4 x5 0 x5
def entity_number.j3 : Nat → ByteArray → Int → Int → Int → Option (ByteArray × Int)
  | 0, _, _, _, _ => none
  | k + 1, x0, x5, x6, x7 => if x5 = x7 then (some ((⟨#[]⟩ : ByteArray), 0)) else ((entity_sign.f x6).bind fun t115 => ((entity_semicolon.f x0 x5).bind fun t116 => (some (t115, t116))))
def entity_number.l0 : Nat → ByteArray → Int → Int → Int → Int → Option (ByteArray × Int)
  | 0, _, _, _, _, _ => none
  | k + 1, x0, x4, x5, x6, x7 => if x5 < (x0.size : Int) then (if 0 ≤ x5 then ((entity_digit.f k (bt x0 x5) x4).bind fun t113 => (if t113 ≥ 0 then ((entity_digit.f k (bt x0 x5) x4).bind fun t114 => (entity_number.l0 k x0 x4 (wrap64 (x5 + 1)) (mn (wrap64 ((wrap64 (x4 * x6)) + t114)) 2097152) x7)) else (entity_number.j3 k x0 x5 x6 x7))) else (none)) else (entity_number.j3 k x0 x5 x6 x7)
end
def entity_number.f (k : Nat) (a0 : ByteArray) : Option (ByteArray × Int) := if (a0.size : Int) > 2 then (if 2 < (a0.size : Int) then (entity_number.j0 k a0 10 2 ((Go.bits .or .u8 (bt a0 2) 32) == 120)) else (none)) else (entity_number.j0 k a0 10 2 false)
theorem entity_number.mono_l : ∀ k, (∀ y0 y1 y2 y3, LeO (entity_number.j0 k y0 y1 y2 y3) (entity_number.j0 (k + 1) y0 y1 y2 y3)) ∧ (∀ y0 y1 y2, LeO (entity_number.j1 k y0 y1 y2) (entity_number.j1 (k + 1) y0 y1 y2)) ∧ (∀ y0 y1 y2 y3, LeO (entity_number.j3 k y0 y1 y2 y3) (entity_number.j3 (k + 1) y0 y1 y2 y3)) ∧ (∀ y0 y1 y2 y3 y4, LeO (entity_number.l0 k y0 y1 y2 y3 y4) (entity_number.l0 (k + 1) y0 y1 y2 y3 y4))
  | 0 => ⟨fun _ _ _ _ r h => by simp [entity_number.j0] at h, fun _ _ _ r h => by simp [entity_number.j1] at h, fun _ _ _ _ r h => by simp [entity_number.j3] at h, fun _ _ _ _ _ r h => by simp [entity_number.l0] at h⟩
  | k + 1 => by
    obtain ⟨ih0, ih1, ih2, ih3⟩ := entity_number.mono_l k
    refine ⟨?_, ?_, ?_, ?_⟩
    · intro y0 y1 y2 y3
      unfold entity_number.j0
      repeat' first
      | (with_reducible exact ih0 _ _ _ _)
      | (with_reducible exact ih1 _ _ _)
      | (with_reducible exact ih2 _ _ _ _)
      | (with_reducible exact ih3 _ _ _ _ _)
      | (with_reducible exact entity_digit.mono _ _ _)
      | (with_reducible exact LeO.refl _)
      | (with_reducible exact LeO.none _)
      | (with_reducible refine LeO.ite ?_ ?_)
      | (with_reducible refine LeO.bind ?_ (fun _ => ?_))
      | exact ih0 _ _ _ _
      | exact ih1 _ _ _
      | exact ih2 _ _ _ _
      | exact ih3 _ _ _ _ _
      | exact entity_digit.mono _ _ _
      | exact LeO.none _
      | refine LeO.ite ?_ ?_
      | refine LeO.bind ?_ (fun _ => ?_)
    · intro y0 y1 y2
      unfold entity_number.j1
      repeat' first
      | (with_reducible exact ih0 _ _ _ _)
      | (with_reducible exact ih1 _ _ _)
      | (with_reducible exact ih2 _ _ _ _)
      | (with_reducible exact ih3 _ _ _ _ _)
      | (with_reducible exact entity_digit.mono _ _ _)
      | (with_reducible exact LeO.refl _)
      | (with_reducible exact LeO.none _)
      | (with_reducible refine LeO.ite ?_ ?_)
      | (with_reducible refine LeO.bind ?_ (fun _ => ?_))
      | exact ih0 _ _ _ _
      | exact ih1 _ _ _
      | exact ih2 _ _ _ _
      | exact ih3 _ _ _ _ _
      | exact entity_digit.mono _ _ _
      | exact LeO.none _
      | refine LeO.ite ?_ ?_
      | refine LeO.bind ?_ (fun _ => ?_)
    · intro y0 y1 y2 y3
      unfold entity_number.j3
      repeat' first
      | (with_reducible exact ih0 _ _ _ _)
      | (with_reducible exact ih1 _ _ _)
      | (with_reducible exact ih2 _ _ _ _)
      | (with_reducible exact ih3 _ _ _ _ _)
      | (with_reducible exact entity_digit.mono _ _ _)
      | (with_reducible exact LeO.refl _)
      | (with_reducible exact LeO.none _)
      | (with_reducible refine LeO.ite ?_ ?_)
      | (with_reducible refine LeO.bind ?_ (fun _ => ?_))
      | exact ih0 _ _ _ _
      | exact ih1 _ _ _
      | exact ih2 _ _ _ _
      | exact ih3 _ _ _ _ _
      | exact entity_digit.mono _ _ _
      | exact LeO.none _
      | refine LeO.ite ?_ ?_
      | refine LeO.bind ?_ (fun _ => ?_)
    · intro y0 y1 y2 y3 y4
      unfold entity_number.l0
      repeat' first
      | (with_reducible exact ih0 _ _ _ _)
      | (with_reducible exact ih1 _ _ _)
      | (with_reducible exact ih2 _ _ _ _)
      | (with_reducible exact ih3 _ _ _ _ _)
      | (with_reducible exact entity_digit.mono _ _ _)
      | (with_reducible exact LeO.refl _)
      | (with_reducible exact LeO.none _)
      | (with_reducible refine LeO.ite ?_ ?_)
      | (with_reducible refine LeO.bind ?_ (fun _ => ?_))
      | exact ih0 _ _ _ _
      | exact ih1 _ _ _
      | exact ih2 _ _ _ _
      | exact ih3 _ _ _ _ _
      | exact entity_digit.mono _ _ _
      | exact LeO.none _
      | refine LeO.ite ?_ ?_
      | refine LeO.bind ?_ (fun _ => ?_)
theorem entity_number.mono : ∀ a0 k, LeO (entity_number.f k a0) (entity_number.f (k + 1) a0) := by
  intro a0 k
  obtain ⟨ih0, ih1, ih2, ih3⟩ := entity_number.mono_l k
  unfold entity_number.f
  repeat' first
      | (with_reducible exact ih0 _ _ _ _)
      | (with_reducible exact ih1 _ _ _)
      | (with_reducible exact ih2 _ _ _ _)
      | (with_reducible exact ih3 _ _ _ _ _)
      | (with_reducible exact entity_digit.mono _ _ _)
      | (with_reducible exact LeO.refl _)
      | (with_reducible exact LeO.none _)
      | (with_reducible refine LeO.ite ?_ ?_)
      | (with_reducible refine LeO.bind ?_ (fun _ => ?_))
      | exact ih0 _ _ _ _
      | exact ih1 _ _ _
      | exact ih2 _ _ _ _
      | exact ih3 _ _ _ _ _
      | exact entity_digit.mono _ _ _
      | exact LeO.none _
      | refine LeO.ite ?_ ?_
      | refine LeO.bind ?_ (fun _ => ?_)
set_option maxHeartbeats 8000000 in
set_option maxRecDepth 100000 in
theorem entity_number.calls (k : Nat) (a0 : ByteArray) (r1 : ByteArray) (r2 : Int) (w : World) (h : entity_number.f k a0 = some (r1, r2)) :
    Calls Tryd.prog 37 #[.string a0] w fun e w' => e = .returned (.tuple #[.string r1, .int .i64 r2]) ∧ Below w.heap.size w w' := by
  have HB := Aside0.mk (Below.refl w.heap.size w)
  have H : (if (a0.size : Int) > 2 then (if 2 < (a0.size : Int) then (entity_number.j0 k a0 10 2 ((Go.bits .or .u8 (bt a0 2) 32) == 120)) else (none)) else (entity_number.j0 k a0 10 2 false)) = some (r1, r2) := h
  clear h
  have HC2 := Aside0.mk H
  clear H
  go_enter Tryd.func37, Tryd.ntmps37
  go_upto_region 2 with (fail)
  go_cut [16] (fun v16 wc => ∃ (kq : Nat) (x16_1 : Bool), v16 = .bool x16_1 ∧ Aside0 (entity_number.j0 kq a0 10 2 x16_1 = some (r1, r2)) ∧ Aside0 (kq ≤ k) ∧ Aside0 (Below w.heap.size w wc))
  case first =>
    have H := HC2.out
    clear HC2
    by_cases c3 : (a0.size : Int) > 2
    · rw [if_pos c3] at H
      have c3b0 : decide (2 < (a0.size : Int)) = true := decide_eq_true c3
      have c3b1 : decide (2 < a0.size) = true := decide_eq_true (by omega)
      clear c3
      (first | rw [c3b0] | (simp only [i64_w, i32_w]; rw [c3b0]) | skip)
      by_cases c4 : 2 < (a0.size : Int)
      · rw [if_pos c4] at H
        have c4b0 : decide (2 < (a0.size : Int)) = true := decide_eq_true c4
        have c4b1 : decide (2 < a0.size) = true := decide_eq_true (by omega)
        clear c4
        have H' := Aside0.mk H
        clear H
        have p5 : 0 ≤ (2 : Int) := (by omega)
        have q5 : 2 < a0.size := (by have : (2 : Int) < (a0.size : Int) := of_decide_eq_true (by first | (with_reducible assumption) | assumption); omega)
        have hx5 : ∀ h : 2 < a0.size, ((a0[2]'h).toNat : Int) = bt a0 2 := bt_at a0 2
        clear p5
        have qi5 : (2 < (a0.size : Int)) = True := eq_true (of_decide_eq_true (by first | (with_reducible assumption) | assumption))
        replace q5 := eq_true q5
        go_wp2
        go_meet
        case rel => exact ⟨_, (((Go.bits .or .u8 (bt a0 2) 32) == 120)), (by first | rfl | (simp; done) | (simp [*]; done)), H', ⟨by first | omega | exact Nat.le_refl _⟩, ⟨by repeat (first | (with_reducible first | exact HB.out | apply below_alloc | apply pw_below_drewN | apply below_drew1) | exact HB.out)⟩⟩
      · rw [if_neg c4] at H
        exact absurd H (by simp)
    · rw [if_neg c3] at H
      have c3b0 : decide (2 < (a0.size : Int)) = false := decide_eq_false c3
      have c3b1 : decide (2 < a0.size) = false := decide_eq_false (by omega)
      clear c3
      (first | rw [c3b0] | (simp only [i64_w, i32_w]; rw [c3b0]) | skip)
      have H' := Aside0.mk H
      clear H
      go_wp2
      go_meet
      case rel => exact ⟨_, (false), (by first | rfl | (simp; done) | (simp [*]; done)), H', ⟨by first | omega | exact Nat.le_refl _⟩, ⟨by repeat (first | (with_reducible first | exact HB.out | apply below_alloc | apply pw_below_drewN | apply below_drew1) | exact HB.out)⟩⟩
  case rest =>
    clear HC2
    try clear p2
    try clear c3
    try clear c3b0
    try clear c3b1
    try clear c4
    try clear c4b0
    try clear c4b1
    try clear p5
    try clear q5
    try clear hx5
    try clear qi5
    try clear p5
    try clear q5
    obtain ⟨kq, x16_1, rfl, HA, HJ1, HB⟩ := hcut
    cases kq with
    | zero => exact absurd HA.out (by simp [entity_number.j0])
    | succ kj1 =>
      have H := HA.out
      clear HA
      simp only [entity_number.j0] at H
      have HC6 := Aside0.mk H
      clear H
      go_upto_if 16 with (fail)
      go_cut [4, 5] (fun v4 v5 wc => ∃ (kq : Nat) (x4_5 : Int) (x5_5 : Int), v4 = .int .i64 x4_5 ∧ v5 = .int .i64 x5_5 ∧ Aside0 (entity_number.j1 kq a0 x4_5 x5_5 = some (r1, r2)) ∧ Aside0 (kq ≤ kj1) ∧ Aside0 (Below w.heap.size w wc))
      case first =>
        have H := HC6.out
        clear HC6
        by_cases c7 : x16_1 = true
        · subst c7
          have H1 : (entity_number.j1 kj1 a0 16 3) = some (r1, r2) := by rw [if_pos rfl] at H; exact H
          clear H
          have H := H1
          clear H1
          have H' := Aside0.mk H
          clear H
          go_wp2
          go_meet
          case rel => exact ⟨_, (16), (3), (by first | rfl | (simp; done) | (simp [*]; done)), (by first | rfl | (simp; done) | (simp [*]; done)), H', ⟨by have := HJ1.out; first | omega | exact Nat.le_refl _⟩, ⟨by repeat (first | (with_reducible first | exact HB.out | apply below_alloc | apply pw_below_drewN | apply below_drew1) | exact HB.out)⟩⟩
        · replace c7 := Bool.eq_false_iff.mpr c7
          subst c7
          have H1 : (entity_number.j1 kj1 a0 10 2) = some (r1, r2) := by rw [if_neg (show ¬ (false = true) by decide)] at H; exact H
          clear H
          have H := H1
          clear H1
          have H' := Aside0.mk H
          clear H
          go_wp2
          go_meet
          case rel => exact ⟨_, (10), (2), (by first | rfl | (simp; done) | (simp [*]; done)), (by first | rfl | (simp; done) | (simp [*]; done)), H', ⟨by have := HJ1.out; first | omega | exact Nat.le_refl _⟩, ⟨by repeat (first | (with_reducible first | exact HB.out | apply below_alloc | apply pw_below_drewN | apply below_drew1) | exact HB.out)⟩⟩
      case rest =>
        clear HC6
        try clear p2
        try clear c3
        try clear c3b0
        try clear c3b1
        try clear c4
        try clear c4b0
        try clear c4b1
        try clear p5
        try clear q5
        try clear hx5
        try clear qi5
        try clear c7
        try clear p2
        try clear p5
        try clear q5
        obtain ⟨kq, x4_5, x5_5, rfl, rfl, HA, HJ5, HB⟩ := hcut
        cases kq with
        | zero => exact absurd HA.out (by simp [entity_number.j1])
        | succ kj5 =>
          have H := HA.out
          clear HA
          simp only [entity_number.j1] at H
          have HC8 := Aside0.mk H
          clear H
          go_upto_block 0 with (fail)
          go_cut [5, 6] (fun v5 v6 wc => ∃ (kq : Nat) (x5_7 : Int) (x6_7 : Int), v5 = .int .i64 x5_7 ∧ v6 = .int .i64 x6_7 ∧ Aside0 (entity_number.j3 kq a0 x5_7 x6_7 x5_5 = some (r1, r2)) ∧ Aside0 (kq ≤ kj5) ∧ Aside0 (Below w.heap.size w wc))
          case first =>
            have H := HC8.out
            clear HC8
            have H' := Aside0.mk H
            clear H
            go_wp2
            go_loopg [5, 6] kj5 (fun kq v5 v6 w' => ∃ (x5_3 : Int) (x6_3 : Int), v5 = .int .i64 x5_3 ∧ v6 = .int .i64 x6_3 ∧ Aside0 (entity_number.l0 kq a0 x4_5 x5_3 x6_3 x5_5 = some (r1, r2)) ∧ Aside0 (kq ≤ kj5) ∧ Aside0 (Below w.heap.size w w'))
            case atStart => exact ⟨(x5_5), (0), (by first | rfl | (simp; done) | (simp [*]; done)), (by first | rfl | (simp; done) | (simp [*]; done)), H', ⟨Nat.le_refl _⟩, ⟨by repeat (first | (with_reducible first | exact HB.out | apply below_alloc | apply pw_below_drewN | apply below_drew1) | exact HB.out)⟩⟩
            case round =>
              clear H'
              try clear p2
              try clear c3
              try clear c3b0
              try clear c3b1
              try clear c4
              try clear c4b0
              try clear c4b1
              try clear p5
              try clear q5
              try clear hx5
              try clear qi5
              try clear c7
              try clear p2
              try clear p5
              try clear q5
              obtain ⟨x5_3, x6_3, rfl, rfl, HA, HK3, HB⟩ := hrel
              cases gk with
              | zero => exact absurd HA.out (by simp [entity_number.l0])
              | succ k3 =>
                have H := HA.out
                clear HA
                simp only [entity_number.l0] at H
                by_cases c9 : x5_3 < (a0.size : Int)
                · rw [if_pos c9] at H
                  have c9b0 : decide (x5_3 < (a0.size : Int)) = true := decide_eq_true c9
                  clear c9
                  (first | rw [c9b0] | (simp only [i64_w, i32_w]; rw [c9b0]) | skip)
                  by_cases c10 : 0 ≤ x5_3
                  · rw [if_pos c10] at H
                    have c10b0 : decide (0 ≤ x5_3) = true := decide_eq_true c10
                    clear c10
                    replace H := Option.bind_eq_some_iff.mp H
                    obtain ⟨t113, A120, H⟩ := H
                    replace H : (if t113 ≥ 0 then ((entity_digit.f k3 (bt a0 x5_3) x4_5).bind fun t114 => (entity_number.l0 k3 a0 x4_5 (wrap64 (x5_3 + 1)) (mn (wrap64 ((wrap64 (x4_5 * x6_3)) + t114)) 2097152) x5_5)) else (entity_number.j3 k3 a0 x5_3 x6_3 x5_5)) = some (r1, r2) := H
                    have A12 := Aside0.mk A120
                    clear A120
                    by_cases c13 : t113 ≥ 0
                    · rw [if_pos c13] at H
                      have c13b0 : decide (0 ≤ t113) = true := decide_eq_true c13
                      clear c13
                      replace H := Option.bind_eq_some_iff.mp H
                      obtain ⟨t114, A150, H⟩ := H
                      replace H : (entity_number.l0 k3 a0 x4_5 (wrap64 (x5_3 + 1)) (mn (wrap64 ((wrap64 (x4_5 * x6_3)) + t114)) 2097152) x5_5) = some (r1, r2) := H
                      have A15 := Aside0.mk A150
                      clear A150
                      obtain ⟨ji16, hji16⟩ : ∃ j_ : Int, (mn (wrap64 ((wrap64 (x4_5 * x6_3)) + t114)) 2097152) = j_ := ⟨_, rfl⟩
                      replace H : (entity_number.l0 k3 a0 x4_5 (wrap64 (x5_3 + 1)) ji16 x5_5) = some (r1, r2) := by first | (rw [hji16] at H; exact H) | (simp only [hji16] at H ⊢; exact H)
                      (try rw [hji16] at A12)
                      (try rw [hji16] at A15)
                      have hji16_ : (if 2097152 < (wrap64 ((wrap64 (x4_5 * x6_3)) + t114)) then 2097152 else (wrap64 ((wrap64 (x4_5 * x6_3)) + t114))) = ji16 := hji16
                      have H' := Aside0.mk H
                      clear H
                      have p11 : 0 ≤ (x5_3 : Int) := of_decide_eq_true (by first | (with_reducible assumption) | assumption)
                      have q11 : x5_3 < (a0.size : Int) := of_decide_eq_true (by first | (with_reducible assumption) | assumption)
                      have hx11 := bt_at a0 x5_3
                      replace p11 := eq_true p11
                      replace q11 := eq_true q11
                      go_wp2_with (first | (go_at_call 47; (with_reducible refine (entity_digit.calls k3 (bt a0 x5_3) x4_5 t113 _ A12.out).mono ?_); rintro e w' ⟨rfl, ⟨nd, rfl⟩⟩; have p14 : 0 ≤ (x5_3 : Int) := of_decide_eq_true (by first | (with_reducible assumption) | assumption); have q14 : x5_3 < (a0.size : Int) := of_decide_eq_true (by first | (with_reducible assumption) | assumption); have hx14 := bt_at a0 x5_3; replace p14 := eq_true p14; replace q14 := eq_true q14) | ((with_reducible refine gate_callee (f := 47) rfl ?_); refine goesL_ (some 39) rfl rfl Tryd.func47 (by kernel_rfl) rfl #[.int .u8 (bt a0 x5_3), .int .i64 x4_5] rfl (by (try simp only [List.map_toArray, List.map_cons, List.map_nil]); first | done | rfl | (simp only [List.length_drop, List.length_take]; rfl)) ?_; (with_reducible refine (entity_digit.calls k3 (bt a0 x5_3) x4_5 t114 _ A15.out).mono ?_); rintro e w' ⟨rfl, ⟨nd, rfl⟩⟩; refine ⟨_, rfl, ?_⟩))
                      go_roundg k3
                      case measure => have := HJ1.out; have := HJ5.out; have := HK3.out; omega
                      case rel => exact ⟨(wrap64 (x5_3 + 1)), (ji16), (by first | rfl | (simp; done) | (simp [*]; done)), (by first | rfl | (simp; done) | (simp only [← hji16] <;> (first | rfl | simp)) | (simp [*]; done)), H', ⟨by have := HJ1.out; have := HJ5.out; have := HK3.out; omega⟩, ⟨by repeat (first | (with_reducible first | exact HB.out | apply below_alloc | apply pw_below_drewN | apply below_drew1) | exact HB.out)⟩⟩
                    · rw [if_neg c13] at H
                      have c13b0 : decide (0 ≤ t113) = false := decide_eq_false c13
                      clear c13
                      have H' := Aside0.mk H
                      clear H
                      have p11 : 0 ≤ (x5_3 : Int) := of_decide_eq_true (by first | (with_reducible assumption) | assumption)
                      have q11 : x5_3 < (a0.size : Int) := of_decide_eq_true (by first | (with_reducible assumption) | assumption)
                      have hx11 := bt_at a0 x5_3
                      replace p11 := eq_true p11
                      replace q11 := eq_true q11
                      go_wp2_with (first | (go_at_call 47; (with_reducible refine (entity_digit.calls k3 (bt a0 x5_3) x4_5 t113 _ A12.out).mono ?_); rintro e w' ⟨rfl, ⟨nd, rfl⟩⟩))
                      go_meet
                      case rel => exact ⟨_, (x5_3), (x6_3), (by first | rfl | (simp; done) | (simp [*]; done)), (by first | rfl | (simp; done) | (simp [*]; done)), H', ⟨by have := HJ1.out; have := HJ5.out; have := HK3.out; first | omega | exact Nat.le_refl _⟩, ⟨by repeat (first | (with_reducible first | exact HB.out | apply below_alloc | apply pw_below_drewN | apply below_drew1) | exact HB.out)⟩⟩
                  · rw [if_neg c10] at H
                    exact absurd H (by simp)
                · rw [if_neg c9] at H
                  have c9b0 : decide (x5_3 < (a0.size : Int)) = false := decide_eq_false c9
                  clear c9
                  (first | rw [c9b0] | (simp only [i64_w, i32_w]; rw [c9b0]) | skip)
                  have H' := Aside0.mk H
                  clear H
                  go_wp2
                  go_meet
                  case rel => exact ⟨_, (x5_3), (x6_3), (by first | rfl | (simp; done) | (simp [*]; done)), (by first | rfl | (simp; done) | (simp [*]; done)), H', ⟨by have := HJ1.out; have := HJ5.out; have := HK3.out; first | omega | exact Nat.le_refl _⟩, ⟨by repeat (first | (with_reducible first | exact HB.out | apply below_alloc | apply pw_below_drewN | apply below_drew1) | exact HB.out)⟩⟩
          case rest =>
            clear HC8
            try clear c1
            try clear p1
            try clear q1
            try clear hx1
            try clear p2
            try clear c3
            try clear c3b0
            try clear c3b1
            try clear c4
            try clear c4b0
            try clear c4b1
            try clear p5
            try clear q5
            try clear hx5
            try clear qi5
            try clear p6
            try clear c7
            try clear c9
            try clear c9b0
            try clear c10
            try clear c10b0
            try clear p11
            try clear q11
            try clear hx11
            try clear c13
            try clear c13b0
            try clear p14
            try clear q14
            try clear hx14
            try clear p11
            try clear p14
            try clear p2
            try clear p5
            try clear q11
            try clear q14
            try clear q5
            obtain ⟨kq, x5_7, x6_7, rfl, rfl, HA, HJ7, HB⟩ := hcut
            cases kq with
            | zero => exact absurd HA.out (by simp [entity_number.j3])
            | succ kj7 =>
              have H := HA.out
              clear HA
              simp only [entity_number.j3] at H
              by_cases c17 : x5_7 = x5_5
              · rw [if_pos c17] at H
                have c17b0 : (x5_7 == x5_5) = true := beq_iff_eq.mpr c17
                have c17b1 : (x5_7 != x5_5) = false := bne_eq_false_iff_eq.mpr c17
                clear c17
                simp only [Option.some.injEq, Prod.mk.injEq] at H
                obtain ⟨rfl, rfl⟩ := H
                go_wp2
                go_ret2
                exact ⟨by first | rfl | (simp [errW_none, errW_some] <;> rfl) | (simp [*, errW_none, errW_some] <;> rfl), by repeat (first | (with_reducible first | exact HB.out | apply below_alloc | apply pw_below_drewN | apply below_drew1) | exact HB.out)⟩
              · rw [if_neg c17] at H
                have c17b0 : (x5_7 == x5_5) = false := beq_eq_false_iff_ne.mpr c17
                have c17b1 : (x5_7 != x5_5) = true := bne_iff_ne.mpr c17
                replace H := Option.bind_eq_some_iff.mp H
                obtain ⟨t115, A180, H⟩ := H
                replace H : ((entity_semicolon.f a0 x5_7).bind fun t116 => (some (t115, t116))) = some (r1, r2) := H
                have A18 := Aside0.mk A180
                clear A180
                replace H := Option.bind_eq_some_iff.mp H
                obtain ⟨t116, A190, H⟩ := H
                replace H : (some (t115, t116)) = some (r1, r2) := H
                have A19 := Aside0.mk A190
                clear A190
                simp only [Option.some.injEq, Prod.mk.injEq] at H
                obtain ⟨rfl, rfl⟩ := H
                go_wp2_with (first | ((with_reducible refine gate_callee (f := 48) rfl ?_); refine goesL_ (some 46) rfl rfl Tryd.func48 (by kernel_rfl) rfl #[.int .i64 x6_7] rfl (by (try simp only [List.map_toArray, List.map_cons, List.map_nil]); first | done | rfl | (simp only [List.length_drop, List.length_take]; rfl)) ?_; (with_reducible refine (entity_sign.calls x6_7 t115 _ A18.out).mono ?_); rintro e w20 ⟨rfl, hb⟩; refine ⟨_, rfl, ?_⟩; have n0_ := Aside0.mk (below_step (by repeat (first | (with_reducible first | exact HB.out | apply below_alloc | apply pw_below_drewN | apply below_drew1) | exact HB.out)) hb); clear HB; have HB := n0_; clear n0_; (try clear hb); (try clear hb2); (try clear hk); (try clear hi)) | ((with_reducible refine gate_callee (f := 49) rfl ?_); refine goesL_ (some 49) rfl rfl Tryd.func49 (by kernel_rfl) rfl #[.string a0, .int .i64 x5_7] rfl (by (try simp only [List.map_toArray, List.map_cons, List.map_nil]); first | done | rfl | (simp only [List.length_drop, List.length_take]; rfl)) ?_; (with_reducible refine (entity_semicolon.calls a0 x5_7 t116 _ A19.out).mono ?_); rintro e w' ⟨rfl, ⟨nd, rfl⟩⟩; refine ⟨_, rfl, ?_⟩))
                go_ret2
                exact ⟨by first | rfl | (simp [errW_none, errW_some] <;> rfl) | (simp [*, errW_none, errW_some] <;> rfl), by repeat (first | (with_reducible first | exact HB.out | apply below_alloc | apply pw_below_drewN | apply below_drew1) | exact HB.out)⟩

/-! ### entity_names: function 50 -/
def entity_names.f  : Option ((List (S79))) := some ((((⟨(⟨#[97, 109, 112]⟩ : ByteArray), 38, true⟩ : S79) :: (⟨(⟨#[108, 116]⟩ : ByteArray), 60, true⟩ : S79) :: (⟨(⟨#[103, 116]⟩ : ByteArray), 62, true⟩ : S79) :: (⟨(⟨#[113, 117, 111, 116]⟩ : ByteArray), 34, true⟩ : S79) :: (⟨(⟨#[110, 98, 115, 112]⟩ : ByteArray), 160, true⟩ : S79) :: (⟨(⟨#[99, 111, 112, 121]⟩ : ByteArray), 169, true⟩ : S79) :: (⟨(⟨#[114, 101, 103]⟩ : ByteArray), 174, true⟩ : S79) :: (⟨(⟨#[116, 105, 109, 101, 115]⟩ : ByteArray), 215, true⟩ : S79) :: (⟨(⟨#[100, 105, 118, 105, 100, 101]⟩ : ByteArray), 247, true⟩ : S79) :: (⟨(⟨#[101, 97, 99, 117, 116, 101]⟩ : ByteArray), 233, true⟩ : S79) :: (⟨(⟨#[97, 117, 109, 108]⟩ : ByteArray), 228, true⟩ : S79) :: (⟨(⟨#[111, 117, 109, 108]⟩ : ByteArray), 246, true⟩ : S79) :: (⟨(⟨#[117, 117, 109, 108]⟩ : ByteArray), 252, true⟩ : S79) :: (⟨(⟨#[115, 122, 108, 105, 103]⟩ : ByteArray), 223, true⟩ : S79) :: (⟨(⟨#[121, 101, 110]⟩ : ByteArray), 165, true⟩ : S79) :: (⟨(⟨#[99, 101, 110, 116]⟩ : ByteArray), 162, true⟩ : S79) :: (⟨(⟨#[112, 111, 117, 110, 100]⟩ : ByteArray), 163, true⟩ : S79) :: (⟨(⟨#[115, 101, 99, 116]⟩ : ByteArray), 167, true⟩ : S79) :: (⟨(⟨#[112, 97, 114, 97]⟩ : ByteArray), 182, true⟩ : S79) :: (⟨(⟨#[109, 105, 100, 100, 111, 116]⟩ : ByteArray), 183, true⟩ : S79) :: (⟨(⟨#[110, 111, 116]⟩ : ByteArray), 172, true⟩ : S79) :: (⟨(⟨#[100, 101, 103]⟩ : ByteArray), 176, true⟩ : S79) :: (⟨(⟨#[102, 114, 97, 99, 49, 50]⟩ : ByteArray), 189, true⟩ : S79) :: (⟨(⟨#[102, 114, 97, 99, 49, 52]⟩ : ByteArray), 188, true⟩ : S79) :: (⟨(⟨#[97, 112, 111, 115]⟩ : ByteArray), 39, false⟩ : S79) :: (⟨(⟨#[104, 101, 108, 108, 105, 112]⟩ : ByteArray), 8230, false⟩ : S79) :: (⟨(⟨#[109, 100, 97, 115, 104]⟩ : ByteArray), 8212, false⟩ : S79) :: (⟨(⟨#[110, 100, 97, 115, 104]⟩ : ByteArray), 8211, false⟩ : S79) :: (⟨(⟨#[108, 115, 113, 117, 111]⟩ : ByteArray), 8216, false⟩ : S79) :: (⟨(⟨#[114, 115, 113, 117, 111]⟩ : ByteArray), 8217, false⟩ : S79) :: (⟨(⟨#[108, 100, 113, 117, 111]⟩ : ByteArray), 8220, false⟩ : S79) :: (⟨(⟨#[114, 100, 113, 117, 111]⟩ : ByteArray), 8221, false⟩ : S79) :: (⟨(⟨#[98, 117, 108, 108]⟩ : ByteArray), 8226, false⟩ : S79) :: (⟨(⟨#[101, 117, 114, 111]⟩ : ByteArray), 8364, false⟩ : S79) :: (⟨(⟨#[116, 114, 97, 100, 101]⟩ : ByteArray), 8482, false⟩ : S79) :: (⟨(⟨#[108, 97, 114, 114]⟩ : ByteArray), 8592, false⟩ : S79) :: (⟨(⟨#[114, 97, 114, 114]⟩ : ByteArray), 8594, false⟩ : S79) :: (⟨(⟨#[105, 110, 102, 105, 110]⟩ : ByteArray), 8734, false⟩ : S79) :: (⟨(⟨#[110, 101]⟩ : ByteArray), 8800, false⟩ : S79) :: (⟨(⟨#[108, 101]⟩ : ByteArray), 8804, false⟩ : S79) :: (⟨(⟨#[103, 101]⟩ : ByteArray), 8805, false⟩ : S79) :: (⟨(⟨#[110, 111, 116, 105, 110]⟩ : ByteArray), 8713, false⟩ : S79) :: (⟨(⟨#[97, 108, 112, 104, 97]⟩ : ByteArray), 945, false⟩ : S79) :: (⟨(⟨#[98, 101, 116, 97]⟩ : ByteArray), 946, false⟩ : S79) :: (⟨(⟨#[112, 105]⟩ : ByteArray), 960, false⟩ : S79) :: (⟨(⟨#[115, 117, 109]⟩ : ByteArray), 8721, false⟩ : S79) :: (⟨(⟨#[109, 105, 110, 117, 115]⟩ : ByteArray), 8722, false⟩ : S79) :: (⟨(⟨#[108, 97, 110, 103]⟩ : ByteArray), 10216, false⟩ : S79) :: []) : List (S79)))
set_option maxHeartbeats 8000000 in
set_option maxRecDepth 100000 in
theorem entity_names.calls  (r : List (S79)) (w : World) (h : entity_names.f  = some r) :
    Calls Tryd.prog 50 #[] w fun e w' => ∃ v0_ : Value, e = .returned (v0_) ∧ Kd.R k79 79 w' w.heap.size (fun _ => True) v0_ r ∧ Below w.heap.size w w' := by
  have hu79 := Tryd.underlying79
  have HB := Aside0.mk (Below.refl w.heap.size w)
  have H : (some ((((⟨(⟨#[97, 109, 112]⟩ : ByteArray), 38, true⟩ : S79) :: (⟨(⟨#[108, 116]⟩ : ByteArray), 60, true⟩ : S79) :: (⟨(⟨#[103, 116]⟩ : ByteArray), 62, true⟩ : S79) :: (⟨(⟨#[113, 117, 111, 116]⟩ : ByteArray), 34, true⟩ : S79) :: (⟨(⟨#[110, 98, 115, 112]⟩ : ByteArray), 160, true⟩ : S79) :: (⟨(⟨#[99, 111, 112, 121]⟩ : ByteArray), 169, true⟩ : S79) :: (⟨(⟨#[114, 101, 103]⟩ : ByteArray), 174, true⟩ : S79) :: (⟨(⟨#[116, 105, 109, 101, 115]⟩ : ByteArray), 215, true⟩ : S79) :: (⟨(⟨#[100, 105, 118, 105, 100, 101]⟩ : ByteArray), 247, true⟩ : S79) :: (⟨(⟨#[101, 97, 99, 117, 116, 101]⟩ : ByteArray), 233, true⟩ : S79) :: (⟨(⟨#[97, 117, 109, 108]⟩ : ByteArray), 228, true⟩ : S79) :: (⟨(⟨#[111, 117, 109, 108]⟩ : ByteArray), 246, true⟩ : S79) :: (⟨(⟨#[117, 117, 109, 108]⟩ : ByteArray), 252, true⟩ : S79) :: (⟨(⟨#[115, 122, 108, 105, 103]⟩ : ByteArray), 223, true⟩ : S79) :: (⟨(⟨#[121, 101, 110]⟩ : ByteArray), 165, true⟩ : S79) :: (⟨(⟨#[99, 101, 110, 116]⟩ : ByteArray), 162, true⟩ : S79) :: (⟨(⟨#[112, 111, 117, 110, 100]⟩ : ByteArray), 163, true⟩ : S79) :: (⟨(⟨#[115, 101, 99, 116]⟩ : ByteArray), 167, true⟩ : S79) :: (⟨(⟨#[112, 97, 114, 97]⟩ : ByteArray), 182, true⟩ : S79) :: (⟨(⟨#[109, 105, 100, 100, 111, 116]⟩ : ByteArray), 183, true⟩ : S79) :: (⟨(⟨#[110, 111, 116]⟩ : ByteArray), 172, true⟩ : S79) :: (⟨(⟨#[100, 101, 103]⟩ : ByteArray), 176, true⟩ : S79) :: (⟨(⟨#[102, 114, 97, 99, 49, 50]⟩ : ByteArray), 189, true⟩ : S79) :: (⟨(⟨#[102, 114, 97, 99, 49, 52]⟩ : ByteArray), 188, true⟩ : S79) :: (⟨(⟨#[97, 112, 111, 115]⟩ : ByteArray), 39, false⟩ : S79) :: (⟨(⟨#[104, 101, 108, 108, 105, 112]⟩ : ByteArray), 8230, false⟩ : S79) :: (⟨(⟨#[109, 100, 97, 115, 104]⟩ : ByteArray), 8212, false⟩ : S79) :: (⟨(⟨#[110, 100, 97, 115, 104]⟩ : ByteArray), 8211, false⟩ : S79) :: (⟨(⟨#[108, 115, 113, 117, 111]⟩ : ByteArray), 8216, false⟩ : S79) :: (⟨(⟨#[114, 115, 113, 117, 111]⟩ : ByteArray), 8217, false⟩ : S79) :: (⟨(⟨#[108, 100, 113, 117, 111]⟩ : ByteArray), 8220, false⟩ : S79) :: (⟨(⟨#[114, 100, 113, 117, 111]⟩ : ByteArray), 8221, false⟩ : S79) :: (⟨(⟨#[98, 117, 108, 108]⟩ : ByteArray), 8226, false⟩ : S79) :: (⟨(⟨#[101, 117, 114, 111]⟩ : ByteArray), 8364, false⟩ : S79) :: (⟨(⟨#[116, 114, 97, 100, 101]⟩ : ByteArray), 8482, false⟩ : S79) :: (⟨(⟨#[108, 97, 114, 114]⟩ : ByteArray), 8592, false⟩ : S79) :: (⟨(⟨#[114, 97, 114, 114]⟩ : ByteArray), 8594, false⟩ : S79) :: (⟨(⟨#[105, 110, 102, 105, 110]⟩ : ByteArray), 8734, false⟩ : S79) :: (⟨(⟨#[110, 101]⟩ : ByteArray), 8800, false⟩ : S79) :: (⟨(⟨#[108, 101]⟩ : ByteArray), 8804, false⟩ : S79) :: (⟨(⟨#[103, 101]⟩ : ByteArray), 8805, false⟩ : S79) :: (⟨(⟨#[110, 111, 116, 105, 110]⟩ : ByteArray), 8713, false⟩ : S79) :: (⟨(⟨#[97, 108, 112, 104, 97]⟩ : ByteArray), 945, false⟩ : S79) :: (⟨(⟨#[98, 101, 116, 97]⟩ : ByteArray), 946, false⟩ : S79) :: (⟨(⟨#[112, 105]⟩ : ByteArray), 960, false⟩ : S79) :: (⟨(⟨#[115, 117, 109]⟩ : ByteArray), 8721, false⟩ : S79) :: (⟨(⟨#[109, 105, 110, 117, 115]⟩ : ByteArray), 8722, false⟩ : S79) :: (⟨(⟨#[108, 97, 110, 103]⟩ : ByteArray), 10216, false⟩ : S79) :: []) : List (S79)))) = some r := h
  clear h
  obtain ⟨y117, hy117⟩ : ∃ y_ : List (S79), y_ = ((((⟨(⟨#[97, 109, 112]⟩ : ByteArray), 38, true⟩ : S79) :: (⟨(⟨#[108, 116]⟩ : ByteArray), 60, true⟩ : S79) :: (⟨(⟨#[103, 116]⟩ : ByteArray), 62, true⟩ : S79) :: (⟨(⟨#[113, 117, 111, 116]⟩ : ByteArray), 34, true⟩ : S79) :: (⟨(⟨#[110, 98, 115, 112]⟩ : ByteArray), 160, true⟩ : S79) :: (⟨(⟨#[99, 111, 112, 121]⟩ : ByteArray), 169, true⟩ : S79) :: (⟨(⟨#[114, 101, 103]⟩ : ByteArray), 174, true⟩ : S79) :: (⟨(⟨#[116, 105, 109, 101, 115]⟩ : ByteArray), 215, true⟩ : S79) :: (⟨(⟨#[100, 105, 118, 105, 100, 101]⟩ : ByteArray), 247, true⟩ : S79) :: (⟨(⟨#[101, 97, 99, 117, 116, 101]⟩ : ByteArray), 233, true⟩ : S79) :: (⟨(⟨#[97, 117, 109, 108]⟩ : ByteArray), 228, true⟩ : S79) :: (⟨(⟨#[111, 117, 109, 108]⟩ : ByteArray), 246, true⟩ : S79) :: (⟨(⟨#[117, 117, 109, 108]⟩ : ByteArray), 252, true⟩ : S79) :: (⟨(⟨#[115, 122, 108, 105, 103]⟩ : ByteArray), 223, true⟩ : S79) :: (⟨(⟨#[121, 101, 110]⟩ : ByteArray), 165, true⟩ : S79) :: (⟨(⟨#[99, 101, 110, 116]⟩ : ByteArray), 162, true⟩ : S79) :: (⟨(⟨#[112, 111, 117, 110, 100]⟩ : ByteArray), 163, true⟩ : S79) :: (⟨(⟨#[115, 101, 99, 116]⟩ : ByteArray), 167, true⟩ : S79) :: (⟨(⟨#[112, 97, 114, 97]⟩ : ByteArray), 182, true⟩ : S79) :: (⟨(⟨#[109, 105, 100, 100, 111, 116]⟩ : ByteArray), 183, true⟩ : S79) :: (⟨(⟨#[110, 111, 116]⟩ : ByteArray), 172, true⟩ : S79) :: (⟨(⟨#[100, 101, 103]⟩ : ByteArray), 176, true⟩ : S79) :: (⟨(⟨#[102, 114, 97, 99, 49, 50]⟩ : ByteArray), 189, true⟩ : S79) :: (⟨(⟨#[102, 114, 97, 99, 49, 52]⟩ : ByteArray), 188, true⟩ : S79) :: (⟨(⟨#[97, 112, 111, 115]⟩ : ByteArray), 39, false⟩ : S79) :: (⟨(⟨#[104, 101, 108, 108, 105, 112]⟩ : ByteArray), 8230, false⟩ : S79) :: (⟨(⟨#[109, 100, 97, 115, 104]⟩ : ByteArray), 8212, false⟩ : S79) :: (⟨(⟨#[110, 100, 97, 115, 104]⟩ : ByteArray), 8211, false⟩ : S79) :: (⟨(⟨#[108, 115, 113, 117, 111]⟩ : ByteArray), 8216, false⟩ : S79) :: (⟨(⟨#[114, 115, 113, 117, 111]⟩ : ByteArray), 8217, false⟩ : S79) :: (⟨(⟨#[108, 100, 113, 117, 111]⟩ : ByteArray), 8220, false⟩ : S79) :: (⟨(⟨#[114, 100, 113, 117, 111]⟩ : ByteArray), 8221, false⟩ : S79) :: (⟨(⟨#[98, 117, 108, 108]⟩ : ByteArray), 8226, false⟩ : S79) :: (⟨(⟨#[101, 117, 114, 111]⟩ : ByteArray), 8364, false⟩ : S79) :: (⟨(⟨#[116, 114, 97, 100, 101]⟩ : ByteArray), 8482, false⟩ : S79) :: (⟨(⟨#[108, 97, 114, 114]⟩ : ByteArray), 8592, false⟩ : S79) :: (⟨(⟨#[114, 97, 114, 114]⟩ : ByteArray), 8594, false⟩ : S79) :: (⟨(⟨#[105, 110, 102, 105, 110]⟩ : ByteArray), 8734, false⟩ : S79) :: (⟨(⟨#[110, 101]⟩ : ByteArray), 8800, false⟩ : S79) :: (⟨(⟨#[108, 101]⟩ : ByteArray), 8804, false⟩ : S79) :: (⟨(⟨#[103, 101]⟩ : ByteArray), 8805, false⟩ : S79) :: (⟨(⟨#[110, 111, 116, 105, 110]⟩ : ByteArray), 8713, false⟩ : S79) :: (⟨(⟨#[97, 108, 112, 104, 97]⟩ : ByteArray), 945, false⟩ : S79) :: (⟨(⟨#[98, 101, 116, 97]⟩ : ByteArray), 946, false⟩ : S79) :: (⟨(⟨#[112, 105]⟩ : ByteArray), 960, false⟩ : S79) :: (⟨(⟨#[115, 117, 109]⟩ : ByteArray), 8721, false⟩ : S79) :: (⟨(⟨#[109, 105, 110, 117, 115]⟩ : ByteArray), 8722, false⟩ : S79) :: (⟨(⟨#[108, 97, 110, 103]⟩ : ByteArray), 10216, false⟩ : S79) :: []) : List (S79))) := ⟨_, rfl⟩
  replace H : (some y117) = some r := by first | (rw [hy117]; with_reducible exact H) | (have H2_ := (Option.bind_some _ _).symm.trans H; rw [hy117]; with_reducible exact H2_) | (have H2_ := (Option.bind_some _ _).symm.trans H; with_reducible exact H2_) | with_reducible exact H | (rw [hy117]; exact H) | exact H
  have Ny117 := Aside0.mk hy117
  clear hy117
  obtain rfl := Option.some.inj H
  go_enter Tryd.func50, Tryd.ntmps50
  go_wp2_with (first | ((with_reducible refine gate_dst (N := 49) rfl ?_); refine Kd.R_lit k79 _ 79 ?hg (N := 49) ?hd (xs := (((⟨(⟨#[97, 109, 112]⟩ : ByteArray), 38, true⟩ : S79) :: (⟨(⟨#[108, 116]⟩ : ByteArray), 60, true⟩ : S79) :: (⟨(⟨#[103, 116]⟩ : ByteArray), 62, true⟩ : S79) :: (⟨(⟨#[113, 117, 111, 116]⟩ : ByteArray), 34, true⟩ : S79) :: (⟨(⟨#[110, 98, 115, 112]⟩ : ByteArray), 160, true⟩ : S79) :: (⟨(⟨#[99, 111, 112, 121]⟩ : ByteArray), 169, true⟩ : S79) :: (⟨(⟨#[114, 101, 103]⟩ : ByteArray), 174, true⟩ : S79) :: (⟨(⟨#[116, 105, 109, 101, 115]⟩ : ByteArray), 215, true⟩ : S79) :: (⟨(⟨#[100, 105, 118, 105, 100, 101]⟩ : ByteArray), 247, true⟩ : S79) :: (⟨(⟨#[101, 97, 99, 117, 116, 101]⟩ : ByteArray), 233, true⟩ : S79) :: (⟨(⟨#[97, 117, 109, 108]⟩ : ByteArray), 228, true⟩ : S79) :: (⟨(⟨#[111, 117, 109, 108]⟩ : ByteArray), 246, true⟩ : S79) :: (⟨(⟨#[117, 117, 109, 108]⟩ : ByteArray), 252, true⟩ : S79) :: (⟨(⟨#[115, 122, 108, 105, 103]⟩ : ByteArray), 223, true⟩ : S79) :: (⟨(⟨#[121, 101, 110]⟩ : ByteArray), 165, true⟩ : S79) :: (⟨(⟨#[99, 101, 110, 116]⟩ : ByteArray), 162, true⟩ : S79) :: (⟨(⟨#[112, 111, 117, 110, 100]⟩ : ByteArray), 163, true⟩ : S79) :: (⟨(⟨#[115, 101, 99, 116]⟩ : ByteArray), 167, true⟩ : S79) :: (⟨(⟨#[112, 97, 114, 97]⟩ : ByteArray), 182, true⟩ : S79) :: (⟨(⟨#[109, 105, 100, 100, 111, 116]⟩ : ByteArray), 183, true⟩ : S79) :: (⟨(⟨#[110, 111, 116]⟩ : ByteArray), 172, true⟩ : S79) :: (⟨(⟨#[100, 101, 103]⟩ : ByteArray), 176, true⟩ : S79) :: (⟨(⟨#[102, 114, 97, 99, 49, 50]⟩ : ByteArray), 189, true⟩ : S79) :: (⟨(⟨#[102, 114, 97, 99, 49, 52]⟩ : ByteArray), 188, true⟩ : S79) :: (⟨(⟨#[97, 112, 111, 115]⟩ : ByteArray), 39, false⟩ : S79) :: (⟨(⟨#[104, 101, 108, 108, 105, 112]⟩ : ByteArray), 8230, false⟩ : S79) :: (⟨(⟨#[109, 100, 97, 115, 104]⟩ : ByteArray), 8212, false⟩ : S79) :: (⟨(⟨#[110, 100, 97, 115, 104]⟩ : ByteArray), 8211, false⟩ : S79) :: (⟨(⟨#[108, 115, 113, 117, 111]⟩ : ByteArray), 8216, false⟩ : S79) :: (⟨(⟨#[114, 115, 113, 117, 111]⟩ : ByteArray), 8217, false⟩ : S79) :: (⟨(⟨#[108, 100, 113, 117, 111]⟩ : ByteArray), 8220, false⟩ : S79) :: (⟨(⟨#[114, 100, 113, 117, 111]⟩ : ByteArray), 8221, false⟩ : S79) :: (⟨(⟨#[98, 117, 108, 108]⟩ : ByteArray), 8226, false⟩ : S79) :: (⟨(⟨#[101, 117, 114, 111]⟩ : ByteArray), 8364, false⟩ : S79) :: (⟨(⟨#[116, 114, 97, 100, 101]⟩ : ByteArray), 8482, false⟩ : S79) :: (⟨(⟨#[108, 97, 114, 114]⟩ : ByteArray), 8592, false⟩ : S79) :: (⟨(⟨#[114, 97, 114, 114]⟩ : ByteArray), 8594, false⟩ : S79) :: (⟨(⟨#[105, 110, 102, 105, 110]⟩ : ByteArray), 8734, false⟩ : S79) :: (⟨(⟨#[110, 101]⟩ : ByteArray), 8800, false⟩ : S79) :: (⟨(⟨#[108, 101]⟩ : ByteArray), 8804, false⟩ : S79) :: (⟨(⟨#[103, 101]⟩ : ByteArray), 8805, false⟩ : S79) :: (⟨(⟨#[110, 111, 116, 105, 110]⟩ : ByteArray), 8713, false⟩ : S79) :: (⟨(⟨#[97, 108, 112, 104, 97]⟩ : ByteArray), 945, false⟩ : S79) :: (⟨(⟨#[98, 101, 116, 97]⟩ : ByteArray), 946, false⟩ : S79) :: (⟨(⟨#[112, 105]⟩ : ByteArray), 960, false⟩ : S79) :: (⟨(⟨#[115, 117, 109]⟩ : ByteArray), 8721, false⟩ : S79) :: (⟨(⟨#[109, 105, 110, 117, 115]⟩ : ByteArray), 8722, false⟩ : S79) :: (⟨(⟨#[108, 97, 110, 103]⟩ : ByteArray), 10216, false⟩ : S79) :: []) : List (S79))) (inner := (.string (⟨#[97, 109, 112]⟩ : ByteArray) :: .int .i32 38 :: .bool true :: .string (⟨#[108, 116]⟩ : ByteArray) :: .int .i32 60 :: .bool true :: .string (⟨#[103, 116]⟩ : ByteArray) :: .int .i32 62 :: .bool true :: .string (⟨#[113, 117, 111, 116]⟩ : ByteArray) :: .int .i32 34 :: .bool true :: .string (⟨#[110, 98, 115, 112]⟩ : ByteArray) :: .int .i32 160 :: .bool true :: .string (⟨#[99, 111, 112, 121]⟩ : ByteArray) :: .int .i32 169 :: .bool true :: .string (⟨#[114, 101, 103]⟩ : ByteArray) :: .int .i32 174 :: .bool true :: .string (⟨#[116, 105, 109, 101, 115]⟩ : ByteArray) :: .int .i32 215 :: .bool true :: .string (⟨#[100, 105, 118, 105, 100, 101]⟩ : ByteArray) :: .int .i32 247 :: .bool true :: .string (⟨#[101, 97, 99, 117, 116, 101]⟩ : ByteArray) :: .int .i32 233 :: .bool true :: .string (⟨#[97, 117, 109, 108]⟩ : ByteArray) :: .int .i32 228 :: .bool true :: .string (⟨#[111, 117, 109, 108]⟩ : ByteArray) :: .int .i32 246 :: .bool true :: .string (⟨#[117, 117, 109, 108]⟩ : ByteArray) :: .int .i32 252 :: .bool true :: .string (⟨#[115, 122, 108, 105, 103]⟩ : ByteArray) :: .int .i32 223 :: .bool true :: .string (⟨#[121, 101, 110]⟩ : ByteArray) :: .int .i32 165 :: .bool true :: .string (⟨#[99, 101, 110, 116]⟩ : ByteArray) :: .int .i32 162 :: .bool true :: .string (⟨#[112, 111, 117, 110, 100]⟩ : ByteArray) :: .int .i32 163 :: .bool true :: .string (⟨#[115, 101, 99, 116]⟩ : ByteArray) :: .int .i32 167 :: .bool true :: .string (⟨#[112, 97, 114, 97]⟩ : ByteArray) :: .int .i32 182 :: .bool true :: .string (⟨#[109, 105, 100, 100, 111, 116]⟩ : ByteArray) :: .int .i32 183 :: .bool true :: .string (⟨#[110, 111, 116]⟩ : ByteArray) :: .int .i32 172 :: .bool true :: .string (⟨#[100, 101, 103]⟩ : ByteArray) :: .int .i32 176 :: .bool true :: .string (⟨#[102, 114, 97, 99, 49, 50]⟩ : ByteArray) :: .int .i32 189 :: .bool true :: .string (⟨#[102, 114, 97, 99, 49, 52]⟩ : ByteArray) :: .int .i32 188 :: .bool true :: .string (⟨#[97, 112, 111, 115]⟩ : ByteArray) :: .int .i32 39 :: .bool false :: .string (⟨#[104, 101, 108, 108, 105, 112]⟩ : ByteArray) :: .int .i32 8230 :: .bool false :: .string (⟨#[109, 100, 97, 115, 104]⟩ : ByteArray) :: .int .i32 8212 :: .bool false :: .string (⟨#[110, 100, 97, 115, 104]⟩ : ByteArray) :: .int .i32 8211 :: .bool false :: .string (⟨#[108, 115, 113, 117, 111]⟩ : ByteArray) :: .int .i32 8216 :: .bool false :: .string (⟨#[114, 115, 113, 117, 111]⟩ : ByteArray) :: .int .i32 8217 :: .bool false :: .string (⟨#[108, 100, 113, 117, 111]⟩ : ByteArray) :: .int .i32 8220 :: .bool false :: .string (⟨#[114, 100, 113, 117, 111]⟩ : ByteArray) :: .int .i32 8221 :: .bool false :: .string (⟨#[98, 117, 108, 108]⟩ : ByteArray) :: .int .i32 8226 :: .bool false :: .string (⟨#[101, 117, 114, 111]⟩ : ByteArray) :: .int .i32 8364 :: .bool false :: .string (⟨#[116, 114, 97, 100, 101]⟩ : ByteArray) :: .int .i32 8482 :: .bool false :: .string (⟨#[108, 97, 114, 114]⟩ : ByteArray) :: .int .i32 8592 :: .bool false :: .string (⟨#[114, 97, 114, 114]⟩ : ByteArray) :: .int .i32 8594 :: .bool false :: .string (⟨#[105, 110, 102, 105, 110]⟩ : ByteArray) :: .int .i32 8734 :: .bool false :: .string (⟨#[110, 101]⟩ : ByteArray) :: .int .i32 8800 :: .bool false :: .string (⟨#[108, 101]⟩ : ByteArray) :: .int .i32 8804 :: .bool false :: .string (⟨#[103, 101]⟩ : ByteArray) :: .int .i32 8805 :: .bool false :: .string (⟨#[110, 111, 116, 105, 110]⟩ : ByteArray) :: .int .i32 8713 :: .bool false :: .string (⟨#[97, 108, 112, 104, 97]⟩ : ByteArray) :: .int .i32 945 :: .bool false :: .string (⟨#[98, 101, 116, 97]⟩ : ByteArray) :: .int .i32 946 :: .bool false :: .string (⟨#[112, 105]⟩ : ByteArray) :: .int .i32 960 :: .bool false :: .string (⟨#[115, 117, 109]⟩ : ByteArray) :: .int .i32 8721 :: .bool false :: .string (⟨#[109, 105, 110, 117, 115]⟩ : ByteArray) :: .int .i32 8722 :: .bool false :: .string (⟨#[108, 97, 110, 103]⟩ : ByteArray) :: .int .i32 10216 :: .bool false :: [])) (ok := fun _ => True) (okp := fun _ => True) ?hr ?hp (fun _ hk => hk) trivial (Below.refl _ _) (Nat.le_refl _) (by simp) ?_; (case hd => rfl); (case hg => rfl); (case hr => exact Lit.run_lit rfl (by kernel_rfl) (by kernel_rfl)); (case hp => exact (Reps.c3 (show Kd.M k79 _ _ _ (⟨(⟨#[97, 109, 112]⟩ : ByteArray), 38, true⟩ : S79) [.string (⟨#[97, 109, 112]⟩ : ByteArray), .int .i32 38, .bool true] from (k79_mkM _ _ _ (⟨(⟨#[97, 109, 112]⟩ : ByteArray), 38, true⟩ : S79) )) (Reps.c3 (show Kd.M k79 _ _ _ (⟨(⟨#[108, 116]⟩ : ByteArray), 60, true⟩ : S79) [.string (⟨#[108, 116]⟩ : ByteArray), .int .i32 60, .bool true] from (k79_mkM _ _ _ (⟨(⟨#[108, 116]⟩ : ByteArray), 60, true⟩ : S79) )) (Reps.c3 (show Kd.M k79 _ _ _ (⟨(⟨#[103, 116]⟩ : ByteArray), 62, true⟩ : S79) [.string (⟨#[103, 116]⟩ : ByteArray), .int .i32 62, .bool true] from (k79_mkM _ _ _ (⟨(⟨#[103, 116]⟩ : ByteArray), 62, true⟩ : S79) )) (Reps.c3 (show Kd.M k79 _ _ _ (⟨(⟨#[113, 117, 111, 116]⟩ : ByteArray), 34, true⟩ : S79) [.string (⟨#[113, 117, 111, 116]⟩ : ByteArray), .int .i32 34, .bool true] from (k79_mkM _ _ _ (⟨(⟨#[113, 117, 111, 116]⟩ : ByteArray), 34, true⟩ : S79) )) (Reps.c3 (show Kd.M k79 _ _ _ (⟨(⟨#[110, 98, 115, 112]⟩ : ByteArray), 160, true⟩ : S79) [.string (⟨#[110, 98, 115, 112]⟩ : ByteArray), .int .i32 160, .bool true] from (k79_mkM _ _ _ (⟨(⟨#[110, 98, 115, 112]⟩ : ByteArray), 160, true⟩ : S79) )) (Reps.c3 (show Kd.M k79 _ _ _ (⟨(⟨#[99, 111, 112, 121]⟩ : ByteArray), 169, true⟩ : S79) [.string (⟨#[99, 111, 112, 121]⟩ : ByteArray), .int .i32 169, .bool true] from (k79_mkM _ _ _ (⟨(⟨#[99, 111, 112, 121]⟩ : ByteArray), 169, true⟩ : S79) )) (Reps.c3 (show Kd.M k79 _ _ _ (⟨(⟨#[114, 101, 103]⟩ : ByteArray), 174, true⟩ : S79) [.string (⟨#[114, 101, 103]⟩ : ByteArray), .int .i32 174, .bool true] from (k79_mkM _ _ _ (⟨(⟨#[114, 101, 103]⟩ : ByteArray), 174, true⟩ : S79) )) (Reps.c3 (show Kd.M k79 _ _ _ (⟨(⟨#[116, 105, 109, 101, 115]⟩ : ByteArray), 215, true⟩ : S79) [.string (⟨#[116, 105, 109, 101, 115]⟩ : ByteArray), .int .i32 215, .bool true] from (k79_mkM _ _ _ (⟨(⟨#[116, 105, 109, 101, 115]⟩ : ByteArray), 215, true⟩ : S79) )) (Reps.c3 (show Kd.M k79 _ _ _ (⟨(⟨#[100, 105, 118, 105, 100, 101]⟩ : ByteArray), 247, true⟩ : S79) [.string (⟨#[100, 105, 118, 105, 100, 101]⟩ : ByteArray), .int .i32 247, .bool true] from (k79_mkM _ _ _ (⟨(⟨#[100, 105, 118, 105, 100, 101]⟩ : ByteArray), 247, true⟩ : S79) )) (Reps.c3 (show Kd.M k79 _ _ _ (⟨(⟨#[101, 97, 99, 117, 116, 101]⟩ : ByteArray), 233, true⟩ : S79) [.string (⟨#[101, 97, 99, 117, 116, 101]⟩ : ByteArray), .int .i32 233, .bool true] from (k79_mkM _ _ _ (⟨(⟨#[101, 97, 99, 117, 116, 101]⟩ : ByteArray), 233, true⟩ : S79) )) (Reps.c3 (show Kd.M k79 _ _ _ (⟨(⟨#[97, 117, 109, 108]⟩ : ByteArray), 228, true⟩ : S79) [.string (⟨#[97, 117, 109, 108]⟩ : ByteArray), .int .i32 228, .bool true] from (k79_mkM _ _ _ (⟨(⟨#[97, 117, 109, 108]⟩ : ByteArray), 228, true⟩ : S79) )) (Reps.c3 (show Kd.M k79 _ _ _ (⟨(⟨#[111, 117, 109, 108]⟩ : ByteArray), 246, true⟩ : S79) [.string (⟨#[111, 117, 109, 108]⟩ : ByteArray), .int .i32 246, .bool true] from (k79_mkM _ _ _ (⟨(⟨#[111, 117, 109, 108]⟩ : ByteArray), 246, true⟩ : S79) )) (Reps.c3 (show Kd.M k79 _ _ _ (⟨(⟨#[117, 117, 109, 108]⟩ : ByteArray), 252, true⟩ : S79) [.string (⟨#[117, 117, 109, 108]⟩ : ByteArray), .int .i32 252, .bool true] from (k79_mkM _ _ _ (⟨(⟨#[117, 117, 109, 108]⟩ : ByteArray), 252, true⟩ : S79) )) (Reps.c3 (show Kd.M k79 _ _ _ (⟨(⟨#[115, 122, 108, 105, 103]⟩ : ByteArray), 223, true⟩ : S79) [.string (⟨#[115, 122, 108, 105, 103]⟩ : ByteArray), .int .i32 223, .bool true] from (k79_mkM _ _ _ (⟨(⟨#[115, 122, 108, 105, 103]⟩ : ByteArray), 223, true⟩ : S79) )) (Reps.c3 (show Kd.M k79 _ _ _ (⟨(⟨#[121, 101, 110]⟩ : ByteArray), 165, true⟩ : S79) [.string (⟨#[121, 101, 110]⟩ : ByteArray), .int .i32 165, .bool true] from (k79_mkM _ _ _ (⟨(⟨#[121, 101, 110]⟩ : ByteArray), 165, true⟩ : S79) )) (Reps.c3 (show Kd.M k79 _ _ _ (⟨(⟨#[99, 101, 110, 116]⟩ : ByteArray), 162, true⟩ : S79) [.string (⟨#[99, 101, 110, 116]⟩ : ByteArray), .int .i32 162, .bool true] from (k79_mkM _ _ _ (⟨(⟨#[99, 101, 110, 116]⟩ : ByteArray), 162, true⟩ : S79) )) (Reps.c3 (show Kd.M k79 _ _ _ (⟨(⟨#[112, 111, 117, 110, 100]⟩ : ByteArray), 163, true⟩ : S79) [.string (⟨#[112, 111, 117, 110, 100]⟩ : ByteArray), .int .i32 163, .bool true] from (k79_mkM _ _ _ (⟨(⟨#[112, 111, 117, 110, 100]⟩ : ByteArray), 163, true⟩ : S79) )) (Reps.c3 (show Kd.M k79 _ _ _ (⟨(⟨#[115, 101, 99, 116]⟩ : ByteArray), 167, true⟩ : S79) [.string (⟨#[115, 101, 99, 116]⟩ : ByteArray), .int .i32 167, .bool true] from (k79_mkM _ _ _ (⟨(⟨#[115, 101, 99, 116]⟩ : ByteArray), 167, true⟩ : S79) )) (Reps.c3 (show Kd.M k79 _ _ _ (⟨(⟨#[112, 97, 114, 97]⟩ : ByteArray), 182, true⟩ : S79) [.string (⟨#[112, 97, 114, 97]⟩ : ByteArray), .int .i32 182, .bool true] from (k79_mkM _ _ _ (⟨(⟨#[112, 97, 114, 97]⟩ : ByteArray), 182, true⟩ : S79) )) (Reps.c3 (show Kd.M k79 _ _ _ (⟨(⟨#[109, 105, 100, 100, 111, 116]⟩ : ByteArray), 183, true⟩ : S79) [.string (⟨#[109, 105, 100, 100, 111, 116]⟩ : ByteArray), .int .i32 183, .bool true] from (k79_mkM _ _ _ (⟨(⟨#[109, 105, 100, 100, 111, 116]⟩ : ByteArray), 183, true⟩ : S79) )) (Reps.c3 (show Kd.M k79 _ _ _ (⟨(⟨#[110, 111, 116]⟩ : ByteArray), 172, true⟩ : S79) [.string (⟨#[110, 111, 116]⟩ : ByteArray), .int .i32 172, .bool true] from (k79_mkM _ _ _ (⟨(⟨#[110, 111, 116]⟩ : ByteArray), 172, true⟩ : S79) )) (Reps.c3 (show Kd.M k79 _ _ _ (⟨(⟨#[100, 101, 103]⟩ : ByteArray), 176, true⟩ : S79) [.string (⟨#[100, 101, 103]⟩ : ByteArray), .int .i32 176, .bool true] from (k79_mkM _ _ _ (⟨(⟨#[100, 101, 103]⟩ : ByteArray), 176, true⟩ : S79) )) (Reps.c3 (show Kd.M k79 _ _ _ (⟨(⟨#[102, 114, 97, 99, 49, 50]⟩ : ByteArray), 189, true⟩ : S79) [.string (⟨#[102, 114, 97, 99, 49, 50]⟩ : ByteArray), .int .i32 189, .bool true] from (k79_mkM _ _ _ (⟨(⟨#[102, 114, 97, 99, 49, 50]⟩ : ByteArray), 189, true⟩ : S79) )) (Reps.c3 (show Kd.M k79 _ _ _ (⟨(⟨#[102, 114, 97, 99, 49, 52]⟩ : ByteArray), 188, true⟩ : S79) [.string (⟨#[102, 114, 97, 99, 49, 52]⟩ : ByteArray), .int .i32 188, .bool true] from (k79_mkM _ _ _ (⟨(⟨#[102, 114, 97, 99, 49, 52]⟩ : ByteArray), 188, true⟩ : S79) )) (Reps.c3 (show Kd.M k79 _ _ _ (⟨(⟨#[97, 112, 111, 115]⟩ : ByteArray), 39, false⟩ : S79) [.string (⟨#[97, 112, 111, 115]⟩ : ByteArray), .int .i32 39, .bool false] from (k79_mkM _ _ _ (⟨(⟨#[97, 112, 111, 115]⟩ : ByteArray), 39, false⟩ : S79) )) (Reps.c3 (show Kd.M k79 _ _ _ (⟨(⟨#[104, 101, 108, 108, 105, 112]⟩ : ByteArray), 8230, false⟩ : S79) [.string (⟨#[104, 101, 108, 108, 105, 112]⟩ : ByteArray), .int .i32 8230, .bool false] from (k79_mkM _ _ _ (⟨(⟨#[104, 101, 108, 108, 105, 112]⟩ : ByteArray), 8230, false⟩ : S79) )) (Reps.c3 (show Kd.M k79 _ _ _ (⟨(⟨#[109, 100, 97, 115, 104]⟩ : ByteArray), 8212, false⟩ : S79) [.string (⟨#[109, 100, 97, 115, 104]⟩ : ByteArray), .int .i32 8212, .bool false] from (k79_mkM _ _ _ (⟨(⟨#[109, 100, 97, 115, 104]⟩ : ByteArray), 8212, false⟩ : S79) )) (Reps.c3 (show Kd.M k79 _ _ _ (⟨(⟨#[110, 100, 97, 115, 104]⟩ : ByteArray), 8211, false⟩ : S79) [.string (⟨#[110, 100, 97, 115, 104]⟩ : ByteArray), .int .i32 8211, .bool false] from (k79_mkM _ _ _ (⟨(⟨#[110, 100, 97, 115, 104]⟩ : ByteArray), 8211, false⟩ : S79) )) (Reps.c3 (show Kd.M k79 _ _ _ (⟨(⟨#[108, 115, 113, 117, 111]⟩ : ByteArray), 8216, false⟩ : S79) [.string (⟨#[108, 115, 113, 117, 111]⟩ : ByteArray), .int .i32 8216, .bool false] from (k79_mkM _ _ _ (⟨(⟨#[108, 115, 113, 117, 111]⟩ : ByteArray), 8216, false⟩ : S79) )) (Reps.c3 (show Kd.M k79 _ _ _ (⟨(⟨#[114, 115, 113, 117, 111]⟩ : ByteArray), 8217, false⟩ : S79) [.string (⟨#[114, 115, 113, 117, 111]⟩ : ByteArray), .int .i32 8217, .bool false] from (k79_mkM _ _ _ (⟨(⟨#[114, 115, 113, 117, 111]⟩ : ByteArray), 8217, false⟩ : S79) )) (Reps.c3 (show Kd.M k79 _ _ _ (⟨(⟨#[108, 100, 113, 117, 111]⟩ : ByteArray), 8220, false⟩ : S79) [.string (⟨#[108, 100, 113, 117, 111]⟩ : ByteArray), .int .i32 8220, .bool false] from (k79_mkM _ _ _ (⟨(⟨#[108, 100, 113, 117, 111]⟩ : ByteArray), 8220, false⟩ : S79) )) (Reps.c3 (show Kd.M k79 _ _ _ (⟨(⟨#[114, 100, 113, 117, 111]⟩ : ByteArray), 8221, false⟩ : S79) [.string (⟨#[114, 100, 113, 117, 111]⟩ : ByteArray), .int .i32 8221, .bool false] from (k79_mkM _ _ _ (⟨(⟨#[114, 100, 113, 117, 111]⟩ : ByteArray), 8221, false⟩ : S79) )) (Reps.c3 (show Kd.M k79 _ _ _ (⟨(⟨#[98, 117, 108, 108]⟩ : ByteArray), 8226, false⟩ : S79) [.string (⟨#[98, 117, 108, 108]⟩ : ByteArray), .int .i32 8226, .bool false] from (k79_mkM _ _ _ (⟨(⟨#[98, 117, 108, 108]⟩ : ByteArray), 8226, false⟩ : S79) )) (Reps.c3 (show Kd.M k79 _ _ _ (⟨(⟨#[101, 117, 114, 111]⟩ : ByteArray), 8364, false⟩ : S79) [.string (⟨#[101, 117, 114, 111]⟩ : ByteArray), .int .i32 8364, .bool false] from (k79_mkM _ _ _ (⟨(⟨#[101, 117, 114, 111]⟩ : ByteArray), 8364, false⟩ : S79) )) (Reps.c3 (show Kd.M k79 _ _ _ (⟨(⟨#[116, 114, 97, 100, 101]⟩ : ByteArray), 8482, false⟩ : S79) [.string (⟨#[116, 114, 97, 100, 101]⟩ : ByteArray), .int .i32 8482, .bool false] from (k79_mkM _ _ _ (⟨(⟨#[116, 114, 97, 100, 101]⟩ : ByteArray), 8482, false⟩ : S79) )) (Reps.c3 (show Kd.M k79 _ _ _ (⟨(⟨#[108, 97, 114, 114]⟩ : ByteArray), 8592, false⟩ : S79) [.string (⟨#[108, 97, 114, 114]⟩ : ByteArray), .int .i32 8592, .bool false] from (k79_mkM _ _ _ (⟨(⟨#[108, 97, 114, 114]⟩ : ByteArray), 8592, false⟩ : S79) )) (Reps.c3 (show Kd.M k79 _ _ _ (⟨(⟨#[114, 97, 114, 114]⟩ : ByteArray), 8594, false⟩ : S79) [.string (⟨#[114, 97, 114, 114]⟩ : ByteArray), .int .i32 8594, .bool false] from (k79_mkM _ _ _ (⟨(⟨#[114, 97, 114, 114]⟩ : ByteArray), 8594, false⟩ : S79) )) (Reps.c3 (show Kd.M k79 _ _ _ (⟨(⟨#[105, 110, 102, 105, 110]⟩ : ByteArray), 8734, false⟩ : S79) [.string (⟨#[105, 110, 102, 105, 110]⟩ : ByteArray), .int .i32 8734, .bool false] from (k79_mkM _ _ _ (⟨(⟨#[105, 110, 102, 105, 110]⟩ : ByteArray), 8734, false⟩ : S79) )) (Reps.c3 (show Kd.M k79 _ _ _ (⟨(⟨#[110, 101]⟩ : ByteArray), 8800, false⟩ : S79) [.string (⟨#[110, 101]⟩ : ByteArray), .int .i32 8800, .bool false] from (k79_mkM _ _ _ (⟨(⟨#[110, 101]⟩ : ByteArray), 8800, false⟩ : S79) )) (Reps.c3 (show Kd.M k79 _ _ _ (⟨(⟨#[108, 101]⟩ : ByteArray), 8804, false⟩ : S79) [.string (⟨#[108, 101]⟩ : ByteArray), .int .i32 8804, .bool false] from (k79_mkM _ _ _ (⟨(⟨#[108, 101]⟩ : ByteArray), 8804, false⟩ : S79) )) (Reps.c3 (show Kd.M k79 _ _ _ (⟨(⟨#[103, 101]⟩ : ByteArray), 8805, false⟩ : S79) [.string (⟨#[103, 101]⟩ : ByteArray), .int .i32 8805, .bool false] from (k79_mkM _ _ _ (⟨(⟨#[103, 101]⟩ : ByteArray), 8805, false⟩ : S79) )) (Reps.c3 (show Kd.M k79 _ _ _ (⟨(⟨#[110, 111, 116, 105, 110]⟩ : ByteArray), 8713, false⟩ : S79) [.string (⟨#[110, 111, 116, 105, 110]⟩ : ByteArray), .int .i32 8713, .bool false] from (k79_mkM _ _ _ (⟨(⟨#[110, 111, 116, 105, 110]⟩ : ByteArray), 8713, false⟩ : S79) )) (Reps.c3 (show Kd.M k79 _ _ _ (⟨(⟨#[97, 108, 112, 104, 97]⟩ : ByteArray), 945, false⟩ : S79) [.string (⟨#[97, 108, 112, 104, 97]⟩ : ByteArray), .int .i32 945, .bool false] from (k79_mkM _ _ _ (⟨(⟨#[97, 108, 112, 104, 97]⟩ : ByteArray), 945, false⟩ : S79) )) (Reps.c3 (show Kd.M k79 _ _ _ (⟨(⟨#[98, 101, 116, 97]⟩ : ByteArray), 946, false⟩ : S79) [.string (⟨#[98, 101, 116, 97]⟩ : ByteArray), .int .i32 946, .bool false] from (k79_mkM _ _ _ (⟨(⟨#[98, 101, 116, 97]⟩ : ByteArray), 946, false⟩ : S79) )) (Reps.c3 (show Kd.M k79 _ _ _ (⟨(⟨#[112, 105]⟩ : ByteArray), 960, false⟩ : S79) [.string (⟨#[112, 105]⟩ : ByteArray), .int .i32 960, .bool false] from (k79_mkM _ _ _ (⟨(⟨#[112, 105]⟩ : ByteArray), 960, false⟩ : S79) )) (Reps.c3 (show Kd.M k79 _ _ _ (⟨(⟨#[115, 117, 109]⟩ : ByteArray), 8721, false⟩ : S79) [.string (⟨#[115, 117, 109]⟩ : ByteArray), .int .i32 8721, .bool false] from (k79_mkM _ _ _ (⟨(⟨#[115, 117, 109]⟩ : ByteArray), 8721, false⟩ : S79) )) (Reps.c3 (show Kd.M k79 _ _ _ (⟨(⟨#[109, 105, 110, 117, 115]⟩ : ByteArray), 8722, false⟩ : S79) [.string (⟨#[109, 105, 110, 117, 115]⟩ : ByteArray), .int .i32 8722, .bool false] from (k79_mkM _ _ _ (⟨(⟨#[109, 105, 110, 117, 115]⟩ : ByteArray), 8722, false⟩ : S79) )) (Reps.c3 (show Kd.M k79 _ _ _ (⟨(⟨#[108, 97, 110, 103]⟩ : ByteArray), 10216, false⟩ : S79) [.string (⟨#[108, 97, 110, 103]⟩ : ByteArray), .int .i32 10216, .bool false] from (k79_mkM _ _ _ (⟨(⟨#[108, 97, 110, 103]⟩ : ByteArray), 10216, false⟩ : S79) )) (Reps.none _ _)))))))))))))))))))))))))))))))))))))))))))))))))); intro v118 w1 ho2 hb hg_ hnew_; clear hg_ hnew_; (first | rw [← Ny117.out] at ho2 | (simp only [Int.reduceToNat] at ho2; rw [← Ny117.out] at ho2)); have n0_ := Aside0.mk (Kd.R_lower ho2 (below_size (by repeat (first | (with_reducible first | exact HB.out | apply below_alloc | apply pw_below_drewN | apply below_drew1) | exact HB.out)))); have n1_ := Aside0.mk (below_step (by repeat (first | (with_reducible first | exact HB.out | apply below_alloc | apply pw_below_drewN | apply below_drew1) | exact HB.out)) hb); clear HB; have HO119 := n0_; have HB := n1_; clear n0_ n1_; clear hb ho2))
  go_ret
  exact ⟨_, by first | rfl | (simp [errW_none, errW_some] <;> rfl) | (simp [*, errW_none, errW_some] <;> rfl), by (with_reducible repeat (first | apply Kd.R_alloc | apply Kd.R_drewN | apply Kd.R_drew)); exact HO119.out, by repeat (first | (with_reducible first | exact HB.out | apply below_alloc | apply pw_below_drewN | apply below_drew1) | exact HB.out)⟩

/-! ### stringslite_HasPrefix: function 60 -/
def stringslite_HasPrefix.f (a0 : ByteArray) (a1 : ByteArray) : Option (Bool) := if (a0.size : Int) ≥ (a1.size : Int) then (if 0 ≤ (a1.size : Int) then (if (a1.size : Int) ≤ (a0.size : Int) then (some ((a0.extract 0 ((a1.size : Int) : Int).toNat).toList == a1.toList)) else (none)) else (none)) else (some false)
set_option maxHeartbeats 8000000 in
set_option maxRecDepth 100000 in
theorem stringslite_HasPrefix.calls (a0 : ByteArray) (a1 : ByteArray) (r : Bool) (w : World) (h : stringslite_HasPrefix.f a0 a1 = some r) :
    Calls Tryd.prog 60 #[.string a0, .string a1] w fun e w' => e = .returned (.bool r) ∧ Drawn0 w w' := by
  have H : (if (a0.size : Int) ≥ (a1.size : Int) then (if 0 ≤ (a1.size : Int) then (if (a1.size : Int) ≤ (a0.size : Int) then (some ((a0.extract 0 ((a1.size : Int) : Int).toNat).toList == a1.toList)) else (none)) else (none)) else (some false)) = some r := h
  clear h
  by_cases c3 : (a0.size : Int) ≥ (a1.size : Int)
  · rw [if_pos c3] at H
    have c3b0 : decide ((a1.size : Int) ≤ (a0.size : Int)) = true := decide_eq_true c3
    have c3b1 : decide (a1.size ≤ a0.size) = true := decide_eq_true (Int.ofNat_le.mp c3)
    clear c3
    by_cases c4 : 0 ≤ (a1.size : Int)
    · rw [if_pos c4] at H
      have c4b0 := eq_true c4
      have c4b1 : decide (0 ≤ (a1.size : Int)) = true := decide_eq_true c4
      clear c4
      by_cases c5 : (a1.size : Int) ≤ (a0.size : Int)
      · rw [if_pos c5] at H
        have c5b0 := eq_true c5
        have c5b1 : decide ((a1.size : Int) ≤ (a0.size : Int)) = true := decide_eq_true c5
        clear c5
        obtain rfl := Option.some.inj H
        go_enter Tryd.func60, Tryd.ntmps60
        go_wp2
        go_ret
        exact ⟨by first | rfl | (simp; done) | (simp [*]; done), by repeat (first | exact Drawn0.refl _ | apply Drawn0.step)⟩
      · rw [if_neg c5] at H
        exact absurd H (by simp)
    · rw [if_neg c4] at H
      exact absurd H (by simp)
  · rw [if_neg c3] at H
    have c3b0 : decide ((a1.size : Int) ≤ (a0.size : Int)) = false := decide_eq_false c3
    have c3b1 : decide (a1.size ≤ a0.size) = false := decide_eq_false (fun h => c3 (Int.ofNat_le.mpr h))
    clear c3
    obtain rfl := Option.some.inj H
    go_enter Tryd.func60, Tryd.ntmps60
    go_wp2
    go_ret
    exact ⟨by first | rfl | (simp; done) | (simp [*]; done), by repeat (first | exact Drawn0.refl _ | apply Drawn0.step)⟩

/-! ### strings_HasPrefix: function 51 -/
def strings_HasPrefix.f (a0 : ByteArray) (a1 : ByteArray) : Option (Bool) := (stringslite_HasPrefix.f a0 a1).bind fun t120 => (some t120)
set_option maxHeartbeats 8000000 in
set_option maxRecDepth 100000 in
theorem strings_HasPrefix.calls (a0 : ByteArray) (a1 : ByteArray) (r : Bool) (w : World) (h : strings_HasPrefix.f a0 a1 = some r) :
    Calls Tryd.prog 51 #[.string a0, .string a1] w fun e w' => e = .returned (.bool r) ∧ Drawn0 w w' := by
  have H : ((stringslite_HasPrefix.f a0 a1).bind fun t120 => (some t120)) = some r := h
  clear h
  replace H := Option.bind_eq_some_iff.mp H
  obtain ⟨t120, A30, H⟩ := H
  replace H : (some t120) = some r := H
  have A3 := Aside0.mk A30
  clear A30
  obtain rfl := Option.some.inj H
  go_enter Tryd.func51, Tryd.ntmps51
  go_wp2_with (first | ((with_reducible refine gate_callee (f := 60) rfl ?_); refine goesL_ (some 7) rfl rfl Tryd.func60 (by kernel_rfl) rfl #[.string a0, .string a1] rfl (by (try simp only [List.map_toArray, List.map_cons, List.map_nil]); first | done | rfl | (simp only [List.length_drop, List.length_take]; rfl)) ?_; (with_reducible refine (stringslite_HasPrefix.calls a0 a1 t120 _ A3.out).mono ?_); rintro e w' ⟨rfl, ⟨nd, rfl⟩⟩; refine ⟨_, rfl, ?_⟩))
  go_ret
  exact ⟨by first | rfl | (simp; done) | (simp [*]; done), by repeat (first | exact Drawn0.refl _ | apply Drawn0.step)⟩

end Go.Proofs.YtjlgbakdnenjhaaDoor.XEn
