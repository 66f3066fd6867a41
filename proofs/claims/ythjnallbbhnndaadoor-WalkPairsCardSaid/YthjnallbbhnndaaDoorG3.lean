/- Written by this session's program (wip/xp) out of the translation as Lean prints it: for each Go function a Lean function and the proof that the code answers just so, on the conditions named in each statement. -/
import Derived.Test.YthjnallbbhnndaaDoorG2
namespace Go.Proofs.YthjnallbbhnndaaDoor.XWp
open Go.Proofs.YthjnallbbhnndaaDoor.Short Go.RowKit Go.Proofs.YthjnallbbhnndaaDoorW.PrintWords Go.Proofs.YthjnallbbhnndaaDoorW.PrintLast Go.Proofs.YthjnallbbhnndaaDoorW.PrintMore
attribute [local go_sem] q15 q13 q1i q1h q0x q0w q14 q12   -- for this text's walks alone
set_option linter.unusedVariables false
set_option linter.unusedSimpArgs false
def slices_Reverse_int_int.l0 : Nat → List Int → Int → Int → Option (List Int)
 | 0, _, _, _ => none
 | k + 1, x0, x2, x3 => if x2 < x3 then (if 0 ≤ x3 then (if x3 < (x0.length : Int) then (if 0 ≤ x2 then (if x2 < (x0.length : Int) then (slices_Reverse_int_int.l0 k ((x0.set (x2 : Int).toNat (rd x0 x3)).set (x3 : Int).toNat (rd x0 x2)) (wrap64 (x2 + 1)) (wrap64 (x3 - 1))) else (none)) else (none)) else (none)) else (none)) else (some x0)
def slices_Reverse_int_int.f (k : Nat) (l0 : List Int) : Option (List Int) := slices_Reverse_int_int.l0 k l0 0 (wrap64 ((l0.length : Int) - 1))
theorem slices_Reverse_int_int.mono_l : ∀ k, (∀ y0 y1 y2, LeO (slices_Reverse_int_int.l0 k y0 y1 y2) (slices_Reverse_int_int.l0 (k + 1) y0 y1 y2))
 | 0 => fun _ _ _ r h => by simp [slices_Reverse_int_int.l0] at h
 | k + 1 => by
  have ih0 := slices_Reverse_int_int.mono_l k
  ·intro y0 y1 y2
   unfold slices_Reverse_int_int.l0
   repeat' first | with_reducible first | apply ih0 | exact LeO.refl _ | exact LeO.none _ | refine LeO.ite ?_ ?_ | refine LeO.bind ?_ (fun _ => ?_) | (first | apply ih0 | exact LeO.none _ | refine LeO.ite ?_ ?_ | refine LeO.bind ?_ (fun _ => ?_))
theorem slices_Reverse_int_int.mono : ∀ a0 k, LeO (slices_Reverse_int_int.f k a0) (slices_Reverse_int_int.f (k + 1) a0) := by
 intro a0 k
 have ih0 := slices_Reverse_int_int.mono_l k
 unfold slices_Reverse_int_int.f
 repeat' first | with_reducible first | apply ih0 | exact LeO.refl _ | exact LeO.none _ | refine LeO.ite ?_ ?_ | refine LeO.bind ?_ (fun _ => ?_) | (first | apply ih0 | exact LeO.none _ | refine LeO.ite ?_ ?_ | refine LeO.bind ?_ (fun _ => ?_))
def slices_Reverse_int_int.T3 : Bool × List (List Nat × List Nat) := (true, [([], []), ([], []), ([], []), ([], []), ([], []), ([], []), ([4, 5], [4, 5]), ([6], [6]), ([], []), ([], []), ([8, 9], [8, 9]), ([10], [10]), ([0, 1, 0, 1, 4, 5, 6, 7, 11], [0, 1]), ([12, 7, 0, 1, 4, 5, 6, 7, 11], [7, 12]), ([2, 3, 0, 1, 2, 3, 4, 5, 6, 7, 8, 9, 10, 11, 12, 13], [2, 3]), ([14, 11, 13, 0, 1, 2, 3, 4, 5, 6, 7, 8, 9, 10, 11, 12, 13], [11, 14])])
def slices_Reverse_int_int.B3 : List Nat := [0, 0, 0, 0, 0, 0, 48, 112, 0, 0, 768, 1792, 4083, 8179, 16383, 32767]
theorem slices_Reverse_int_int.tab3 : rtab .any (opsOf Tryd.f111 3) = slices_Reverse_int_int.T3 := by kernel_rfl
theorem slices_Reverse_int_int.bits3 : q1l slices_Reverse_int_int.T3.2 slices_Reverse_int_int.B3 = true := by kernel_rfl
set_option maxHeartbeats 8000000 in
set_option maxRecDepth 100000 in
theorem slices_Reverse_int_int.calls (k : Nat) (P0_ : Nat → Prop) (u9000_ : Value) (l0 : List Int) (r : List Int) (w0 w : World) (hB : Below w0.heap.size w0 w) (ho0 : Kd.R (Kd.int .i64) 3 w w0.heap.size P0_ u9000_ l0) (h : slices_Reverse_int_int.f k l0 = some r) :
 Calls Tryd.prog 111 #[u9000_] w fun e w' => e = .returned (.tuple #[]) ∧ Kd.R (Kd.int .i64) 3 w' w0.heap.size (fun k_ => (P0_ k_ ∨ w.heap.size ≤ k_)) u9000_ r ∧ Below w0.heap.size w0 w' ∧ Kept w w' (fun k_ => P0_ k_) := by
 have HO0 := aS (show Kd.R (Kd.int .i64) 3 w w0.heap.size (fun k_ => (P0_ k_ ∨ w.heap.size ≤ k_)) u9000_ l0 from Kd.R_mono ho0 (fun k_ hk => (.inl hk)))
 have HK := aS (Kept.refl w (fun k_ => P0_ k_))
 have HW0 := aS hB.size
 have HB := aS hB
 clear hB
 have H : (slices_Reverse_int_int.l0 k l0 0 (wrap64 ((l0.length : Int) - 1))) = some r := h
 clear h
 have H' := aS H
 clear H
 obtain ⟨Ao2, co2, eo2⟩ := Kd.R_slice HO0.out
 subst eo2
 go_enter Tryd.func111, Tryd.ntmps111
 go_wp2
 go_loopg [2, 3] k (fun kq v2 v3 w' => ∃ (x0_1 : List Int) (x2_1 : Int) (x3_1 : Int), v2 = .int .i64 x2_1 ∧ v3 = .int .i64 x3_1 ∧ Aside0 (slices_Reverse_int_int.l0 kq x0_1 x2_1 x3_1 = some r) ∧ Aside0 (kq ≤ k) ∧ Aside0 (Kd.R (Kd.int .i64) 3 w' w0.heap.size (fun k_ => (P0_ k_ ∨ w.heap.size ≤ k_)) (.slice Ao2 l0.length co2) x0_1) ∧ Aside0 (Kept w w' (fun k_ => P0_ k_)) ∧ Aside0 (Below w0.heap.size w0 w'))
 case atStart => exact ⟨(l0), (0), (wrap64 ((l0.length : Int) - 1)), (by first | rfl | (simp; done) | simp [*]), (by first | rfl | (simp; done) | simp [*]), H', ⟨Nat.le_refl _⟩, ⟨by (with_reducible repeat (first | apply rA | apply rN | apply rD)); exact HO0.out⟩, ⟨by repeat (first | (with_reducible first | exact HK.out | apply Kept.alloc | apply Kept.drewN | apply Kept.drew) | exact HK.out)⟩, ⟨by repeat (first | (with_reducible first | exact HB.out | apply bA | apply bN | apply bD) | exact HB.out)⟩⟩
 case round =>
  clear H'
  try clear c1
  try clear p2
  obtain ⟨x0_1, x2_1, x3_1, rfl, rfl, HA, HK1, HO_0, HK, HB⟩ := hrel
  have hl0_1 := (Kd.R_reads' HO_0.out).1
  rw [hl0_1] at HO_0
  (try simp only [hl0_1])
  cases gk with
  | zero => exact absurd HA.out (by simp [slices_Reverse_int_int.l0])
  | succ k1 =>
   have H := HA.out
   clear HA
   simp only [slices_Reverse_int_int.l0] at H
   by_cases c3 : x2_1 < x3_1
   ·rw [if_pos c3] at H
    have c3b0 : decide (x2_1 < x3_1) = true := decide_eq_true c3
    clear c3
    by_cases c4 : 0 ≤ x3_1
    ·rw [if_pos c4] at H
     have c4b0 : decide (0 ≤ x3_1) = true := decide_eq_true c4
     clear c4
     by_cases c5 : x3_1 < (x0_1.length : Int)
     ·rw [if_pos c5] at H
      have c5b0 : decide (x3_1 < (x0_1.length : Int)) = true := decide_eq_true c5
      clear c5
      by_cases c6 : 0 ≤ x2_1
      ·rw [if_pos c6] at H
       have c6b0 : decide (0 ≤ x2_1) = true := decide_eq_true c6
       clear c6
       by_cases c7 : x2_1 < (x0_1.length : Int)
       ·rw [if_pos c7] at H
        have c7b0 : decide (x2_1 < (x0_1.length : Int)) = true := decide_eq_true c7
        clear c7
        obtain ⟨y199, hy199⟩ : ∃ y_ : List Int, y_ = (x0_1.set (x2_1 : Int).toNat (rd x0_1 x3_1)) := ⟨_, rfl⟩
        replace H : (slices_Reverse_int_int.l0 k1 (y199.set (x3_1 : Int).toNat (rd x0_1 x2_1)) (wrap64 (x2_1 + 1)) (wrap64 (x3_1 - 1))) = some r := by first | (rw [hy199]; with_reducible exact H) | (have H2_ := (Option.bind_some _ _).symm.trans H; rw [hy199]; with_reducible exact H2_) | (have H2_ := (Option.bind_some _ _).symm.trans H; with_reducible exact H2_) | with_reducible exact H | (rw [hy199]; exact H) | exact H
        have Ny199 := aS hy199
        clear hy199
        obtain ⟨y200, hy200⟩ : ∃ y_ : List Int, y_ = (y199.set (x3_1 : Int).toNat (rd x0_1 x2_1)) := ⟨_, rfl⟩
        replace H : (slices_Reverse_int_int.l0 k1 y200 (wrap64 (x2_1 + 1)) (wrap64 (x3_1 - 1))) = some r := by first | (rw [hy200]; with_reducible exact H) | (have H2_ := (Option.bind_some _ _).symm.trans H; rw [hy200]; with_reducible exact H2_) | (have H2_ := (Option.bind_some _ _).symm.trans H; with_reducible exact H2_) | with_reducible exact H | (rw [hy200]; exact H) | exact H
        have Ny200 := aS hy200
        clear hy200
        have H' := aS H
        clear H
        try go_wp2
        have n0_ := aS (Kd.R_drew HO_0.out)
        have n1_ := aS (Kept.drew HK.out)
        have n2_ := aS (q0s HB.out)
        clear HO_0
        clear HK
        clear HB
        have HO_0 := n0_
        have HK := n1_
        have HB := n2_
        clear n0_ n1_ n2_
        have p197 : 0 ≤ (x3_1 : Int) := od (by first | (with_reducible assumption) | assumption)
        have q197 : x3_1 < (x0_1.length : Int) := od (by first | (with_reducible assumption) | assumption)
        obtain ⟨ad197, e197, hx197_0⟩ := Kd.at_int (Kd.R_reads' HO_0.out).2.2 x3_1 p197 q197
        cases e197
        replace p197 := eq_true p197
        replace q197 := eq_true q197
        have p198 : 0 ≤ (x2_1 : Int) := od (by first | (with_reducible assumption) | assumption)
        have q198 : x2_1 < (x0_1.length : Int) := od (by first | (with_reducible assumption) | assumption)
        obtain ⟨ad198, e198, hx198_0⟩ := Kd.at_int (Kd.R_reads' HO_0.out).2.2 x2_1 p198 q198
        obtain rfl : ad197 = ad198 := (by injection e198)
        replace p198 := eq_true p198
        replace q198 := eq_true q198
        have p8 : 0 ≤ (x2_1 : Int) := od (by first | (with_reducible assumption) | assumption)
        have q8 : (x2_1 : Int) < ((x0_1.length : Int) : Int) := od (by first | (with_reducible assumption) | assumption)
        obtain ⟨go8, co8, eo8, gb8, gl8, cl8, HG8⟩ := Kd.R_form HO_0.out (by omega)
        (first | cases eo8 | (injection eo8 with ea_ en_ ec_; (first | subst ea_ | (injection ea_ with ea_; subst ea_)); subst ec_; clear en_))
        have GB8 := aS gb8
        have GG8 := aS HG8
        clear gb8 gl8 HG8
        have HMgo8 := aS (show (P0_ go8 ∨ w.heap.size ≤ go8) from (HO_0.out.1 _ rfl))
        (first | simp only [add_plain] at hx197_0 | skip)
        (first | simp only [add_plain] at hx198_0 | skip)
        obtain ⟨hx8_0, hf8_0⟩ := Kd.R_celln 0 HO_0.out (x2_1 : Int) p8 q8
        replace p8 := eq_true p8
        replace q8 := eq_true q8
        have HP11 := Kd.R_putn HO_0.out (x2_1 : Int) (rd x0_1 x3_1)
        rw [← Ny199.out] at HP11
        have HQ11 := aS HP11
        clear HP11
        have p9 : 0 ≤ (x3_1 : Int) := od (by first | (with_reducible assumption) | assumption)
        have q9 : (x3_1 : Int) < ((x0_1.length : Int) : Int) := od (by first | (with_reducible assumption) | assumption)
        obtain ⟨hx9_0, hf9_0⟩ := Kd.R_celln 0 HQ11.out (x3_1 : Int) p9 q9
        replace p9 := eq_true p9
        replace q9 := eq_true q9
        have HP12 := Kd.R_putn HQ11.out (x3_1 : Int) (rd x0_1 x2_1)
        rw [← Ny200.out] at HP12
        have HQ12 := aS HP12
        clear HP12
        refine start_ (n := 16) (S := fun w' => w'.cell? ⟨go8, (x3_1).toNat, none⟩ = some (.int .i64 (rd x0_1 x3_1)) ∧ w'.cell? ⟨go8, (x2_1).toNat, none⟩ = some (.int .i64 (rd x0_1 x2_1))) (ds := [13, 15]) #[false, false, false, false, false, false, false, false, false, false, false, false, false, false, false, false] (by kernel_rfl) rfl rfl ⟨hx197_0, hx198_0⟩ (fun hHeld => ?_); refine q1c slices_Reverse_int_int.tab3 slices_Reverse_int_int.bits3 (fun HT_ HW_ => ?_)
        generalize wr.drew = w10 at HO_0 HK HB GG8 HQ11 HQ12 hf8_0 hf9_0 hx197_0 hx198_0 hx8_0 hx9_0 hHeld ⊢
        refine q0o (i := 0) (N := some 14) (v := ?_) (a' := ?_) #[true, false, false, false, false, false, false, false, false, false, false, false, false, false, false, false] rfl rfl (q0i HT_.out (by kernel_rfl)) (fun _ _ _ h => h) (Or.inl ⟨by rfl, ?_⟩) ?_ ?_
        rotate_left
        ·intro w'
         go_simp
         with_reducible rfl
        rotate_left
        ·simp only [Act.put, s1, s2, s3, q0d, q0e]
         rfl
        refine q0o (i := 1) (N := some 15) (v := ?_) (a' := ?_) #[true, true, false, false, false, false, false, false, false, false, false, false, false, false, false, false] rfl rfl (q0i HT_.out (by kernel_rfl)) (fun _ _ _ h => h) (Or.inl ⟨by rfl, ?_⟩) ?_ ?_
        rotate_left
        ·intro w'
         go_simp
         with_reducible rfl
        rotate_left
        ·simp only [Act.put, s1, s2, s3, q0d, q0e]
         rfl
        refine q0o (i := 2) (N := some 16) (v := ?_) (a' := ?_) #[true, true, true, false, false, false, false, false, false, false, false, false, false, false, false, false] rfl rfl (q0i HT_.out (by kernel_rfl)) (fun _ _ _ h => h) (Or.inl ⟨by rfl, ?_⟩) ?_ ?_
        rotate_left
        ·intro w'
         go_simp
         with_reducible rfl
        rotate_left
        ·simp only [Act.put, s1, s2, s3, q0d, q0e]
         rfl
        refine q0o (i := 3) (N := some 17) (v := ?_) (a' := ?_) #[true, true, true, true, false, false, false, false, false, false, false, false, false, false, false, false] rfl rfl (q0i HT_.out (by kernel_rfl)) (fun _ _ _ h => h) (Or.inl ⟨by rfl, ?_⟩) ?_ ?_
        rotate_left
        ·intro w'
         go_simp
         with_reducible rfl
        rotate_left
        ·simp only [Act.put, s1, s2, s3, q0d, q0e]
         rfl
        refine q0o (i := 4) (N := some 18) (v := ?_) (a' := ?_) #[true, true, true, true, true, false, false, false, false, false, false, false, false, false, false, false] rfl rfl (q0i HT_.out (by kernel_rfl)) (fun _ _ _ h => h) (Or.inl ⟨by rfl, ?_⟩) ?_ ?_
        rotate_left
        ·intro w'
         go_simp
         with_reducible rfl
        rotate_left
        ·simp only [Act.put, s1, s2, s3, q0d, q0e]
         rfl
        refine q0o (i := 5) (N := some 19) (v := ?_) (a' := ?_) #[true, true, true, true, true, true, false, false, false, false, false, false, false, false, false, false] rfl rfl (q0i HT_.out (by kernel_rfl)) (fun _ _ _ h => h) (Or.inl ⟨by rfl, ?_⟩) ?_ ?_
        rotate_left
        ·intro w'
         go_simp
         with_reducible rfl
        rotate_left
        ·simp only [Act.put, s1, s2, s3, q0d, q0e]
         rfl
        refine q0o (i := 6) (N := some 20) (v := ?_) (a' := ?_) #[true, true, true, true, true, true, true, false, false, false, false, false, false, false, false, false] rfl rfl (q0i HT_.out (by kernel_rfl)) (fun _ _ _ h => h) (Or.inl ⟨by rfl, ?_⟩) ?_ ?_
        rotate_left
        ·intro w'
         go_simp
         with_reducible rfl
        rotate_left
        ·simp only [Act.put, s1, s2, s3, q0d, q0e]
         rfl
        refine q0o (i := 8) (N := some 22) (v := ?_) (a' := ?_) #[true, true, true, true, true, true, true, false, true, false, false, false, false, false, false, false] rfl rfl (q0i HT_.out (by kernel_rfl)) (fun _ _ _ h => h) (Or.inl ⟨by rfl, ?_⟩) ?_ ?_
        rotate_left
        ·intro w'
         go_simp
         with_reducible rfl
        rotate_left
        ·simp only [Act.put, s1, s2, s3, q0d, q0e]
         rfl
        refine q0o (i := 9) (N := some 23) (v := ?_) (a' := ?_) #[true, true, true, true, true, true, true, false, true, true, false, false, false, false, false, false] rfl rfl (q0i HT_.out (by kernel_rfl)) (fun _ _ _ h => h) (Or.inl ⟨by rfl, ?_⟩) ?_ ?_
        rotate_left
        ·intro w'
         go_simp
         with_reducible rfl
        rotate_left
        ·simp only [Act.put, s1, s2, s3, q0d, q0e]
         rfl
        refine q0o (i := 10) (N := some 24) (v := ?_) (a' := ?_) #[true, true, true, true, true, true, true, false, true, true, true, false, false, false, false, false] rfl rfl (q0i HT_.out (by kernel_rfl)) (fun _ _ _ h => h) (Or.inl ⟨by rfl, ?_⟩) ?_ ?_
        rotate_left
        ·intro w'
         go_simp
         with_reducible rfl
        rotate_left
        ·simp only [Act.put, s1, s2, s3, q0d, q0e]
         rfl
        refine take_ (i := 7) (N := some 21) (v := ?_) (a' := ?_) #[true, true, true, true, true, true, true, true, true, true, true, false, false, false, false, false] rfl rfl (q0r HT_.out HW_.out (by kernel_rfl)) (fun _ _ _ h => h) (Or.inl ⟨by rfl, ?_⟩) hHeld ?_ ?_
        rotate_left
        ·rintro w' ⟨s0, s1⟩
         go_simp
         with_reducible rfl
        rotate_left
        ·simp only [Act.put, s1, s2, s3, q0d, q0e]
         rfl
        refine take_ (i := 11) (N := some 25) (v := ?_) (a' := ?_) #[true, true, true, true, true, true, true, true, true, true, true, true, false, false, false, false] rfl rfl (q0r HT_.out HW_.out (by kernel_rfl)) (fun _ _ _ h => h) (Or.inl ⟨by rfl, ?_⟩) hHeld ?_ ?_
        rotate_left
        ·rintro w' ⟨s0, s1⟩
         go_simp
         with_reducible rfl
        rotate_left
        ·simp only [Act.put, s1, s2, s3, q0d, q0e]
         rfl
        refine q0o (i := 12) (N := some 26) (v := ?_) (a' := ?_) #[true, true, true, true, true, true, true, true, true, true, true, true, true, false, false, false] rfl rfl (q0i HT_.out (by kernel_rfl)) (fun _ _ _ h => h) (Or.inl ⟨by rfl, ?_⟩) ?_ ?_
        rotate_left
        ·intro w'
         go_simp
         with_reducible rfl
        rotate_left
        ·simp only [Act.put, s1, s2, s3, q0d, q0e]
         rfl
        refine last_ (i := 13) (N := none) #[true, true, true, true, true, true, true, true, true, true, true, true, true, true, false, false] rfl rfl (one_of HT_.out (by kernel_rfl)) (by decide) (fun K hK => ?_)
        refine skip_ (w1 := ?_) (by rfl) rfl ?_ ?_
        rotate_left
        ·go_simp
         rfl
        refine hK.out _ _ ?_
        clear hK K
        refine q0o (i := 14) (N := some 27) (v := ?_) (a' := ?_) #[true, true, true, true, true, true, true, true, true, true, true, true, true, true, true, false] rfl rfl (q0i HT_.out (by kernel_rfl)) (fun _ _ _ h => h) (Or.inl ⟨by rfl, ?_⟩) ?_ ?_
        rotate_left
        ·intro w'
         go_simp
         with_reducible rfl
        rotate_left
        ·simp only [Act.put, s1, s2, s3, q0d, q0e]
         rfl
        refine last_ (i := 15) (N := none) #[true, true, true, true, true, true, true, true, true, true, true, true, true, true, true, true] rfl rfl (one_of HT_.out (by kernel_rfl)) (by decide) (fun K hK => ?_)
        refine skip_ (w1 := ?_) (by rfl) rfl ?_ ?_
        rotate_left
        ·go_simp
         rfl
        refine hK.out _ _ ?_
        clear hK K
        refine done_ (done_of HT_.out (by kernel_rfl)) ?_
        try go_wp2
        (try simp only [← hl0_1])
        go_roundg k1
        case measure => have := HK1.out; omega
        case rel => exact ⟨(y200), (wrap64 (x2_1 + 1)), (wrap64 (x3_1 - 1)), (by first | rfl | (simp; done) | simp [*]), (by first | rfl | (simp; done) | simp [*]), H', ⟨by have := HK1.out; omega⟩, ⟨by (try simp only [hl0_1]); (with_reducible repeat (first | apply rA | apply rN | apply rD)); exact HQ12.out⟩, ⟨by repeat (first | (with_reducible first | exact HK.out | apply Kept.alloc | apply Kept.drewN | apply Kept.drew | refine Kept.setCell ?_ HMgo8.out _ | refine Kept.setCell ?_ HMgo8.out _) | exact HK.out)⟩, ⟨by repeat (first | (with_reducible first | exact HB.out | apply bA | apply bN | apply bD | refine bS ?_ GB8.out | refine bS ?_ GB8.out) | exact HB.out)⟩⟩
       ·rw [if_neg c7] at H
        exact absurd H (by simp)
      ·rw [if_neg c6] at H
       exact absurd H (by simp)
     ·rw [if_neg c5] at H
      exact absurd H (by simp)
    ·rw [if_neg c4] at H
     exact absurd H (by simp)
   ·rw [if_neg c3] at H
    have c3b0 : decide (x2_1 < x3_1) = false := decide_eq_false c3
    (try simp only [hl0_1] at c3b0)
    clear c3
    obtain rfl := Option.some.inj H
    go_wp2
    first | go_end0 | ((try simp only [Exit.inBlock, Exit.then]); refine bodyPost_ret (results_none rfl _ _ _) rfl ?_)
    exact ⟨by first | rfl | (simp [q02, q01] <;> rfl) | (simp [*, q02, q01] <;> rfl), (by first | exact (by (with_reducible repeat (first | apply rA | apply rN | apply rD)); exact HO_0.out) | (simp only [hl0_1]; exact (by (with_reducible repeat (first | apply rA | apply rN | apply rD)); exact HO_0.out))), by repeat (first | (with_reducible first | exact HB.out | apply bA | apply bN | apply bD) | exact HB.out), by repeat (first | (with_reducible first | exact HK.out | apply Kept.alloc | apply Kept.drewN | apply Kept.drew) | exact HK.out)⟩
def q04 (w0 W : World) (g : Nat) (f0 : List (S43)) (f1 : Bool) : Prop := ∃ A0 c0, W.heap[g]? = some (.cells #[.slice A0 f0.length c0, .bool f1] 116 (0, 0)) ∧ w0.heap.size ≤ g ∧ Kd.C k43 w0 A0 f0.length f0
theorem q04.grown {w0 W : World} {g : Nat} {f0 : List (S43)} {f1 : Bool} {W1 : World} {row : Option Nat} (h : q04 w0 W g f0 f1) (hw : W.grownBy W1 row) (hne : some g ≠ row) : q04 w0 W1 g f0 f1 := by
 obtain ⟨A0, c0, hb, hg, hr0⟩ := h
 exact ⟨A0, c0, blk_grown hb hw hne, hg, hr0⟩
theorem q04.own_neN {w0 W : World} {g : Nat} {f0 : List (S43)} {f1 : Bool} {α : Type} {d : Kd α} {e : Nat} {base : Nat} {ok : Nat → Prop} {v : Value} {xs : List α} (h : q04 w0 W g f0 f1) (ho : Kd.N d e W base ok v xs) (ht : e ≠ 116) : some g ≠ v.ownBlock := by
 obtain ⟨A0, c0, hb, hg, hr0⟩ := h
 exact Kd.N_ne ho hb ht
theorem q04.fresh {w0 W : World} {g : Nat} {f0 : List (S43)} {f1 : Bool} (h : q04 w0 W g f0 f1) : ∀ k, W.heap.size ≤ k → k ≠ g := by
 obtain ⟨A0, c0, hb, hg, hr0⟩ := h
 exact Kd.freshB hb
theorem q04.kept {w0 W : World} {g : Nat} {f0 : List (S43)} {f1 : Bool} {W1 : World} {S : Nat → Prop} (h : q04 w0 W g f0 f1) (hk : Kept W W1 S) (hne : ¬ S g) : q04 w0 W1 g f0 f1 := by
 obtain ⟨A0, c0, hb, hg, hr0⟩ := h
 exact ⟨A0, c0, blk_kept hb hk hne, hg, hr0⟩
theorem q04.below {w0 W : World} {g : Nat} {f0 : List (S43)} {f1 : Bool} {W1 : World} (h : q04 w0 W g f0 f1) (hw : Below W.heap.size W W1) : q04 w0 W1 g f0 f1 := h.grown (grown_of_below hw none) (by simp)
theorem q04.alloc {w0 W : World} {g : Nat} {f0 : List (S43)} {f1 : Bool} (h : q04 w0 W g f0 f1) (o : Obj) : q04 w0 (W.alloc o) g f0 f1 := h.below (q11 (Below.refl _ _) o)
theorem q04.drewN {w0 W : World} {g : Nat} {f0 : List (S43)} {f1 : Bool} (h : q04 w0 W g f0 f1) (m : Nat) : q04 w0 (W.drewN m) g f0 f1 := h
theorem q04.drew {w0 W : World} {g : Nat} {f0 : List (S43)} {f1 : Bool} (h : q04 w0 W g f0 f1) : q04 w0 W.drew g f0 f1 := h
theorem q04.at_ {w0 W : World} {g : Nat} {f0 : List (S43)} {f1 : Bool} {w' : World} {m : Nat} (hq : W.drewN m = w') (h : q04 w0 W g f0 f1) : q04 w0 w' g f0 f1 := by subst hq; exact q04.drewN h m
theorem q04.apart {w0 W : World} {g : Nat} {f0 : List (S43)} {f1 : Bool} {α : Type} {d : Kd α} {e : Nat} {base : Nat} {ok : Nat → Prop} {v : Value} {xs : List α} (h : q04 w0 W g f0 f1) (ho : d.R e W base ok v xs) (ht : ∀ q, q ∈ e :: d.E → q ≠ 116) : d.R e W base (fun k => ok k ∧ k ≠ g) v xs := by
 obtain ⟨A0, c0, hb, hg, hr0⟩ := h
 exact Kd.R_types ho hb ht
theorem q04.own_ne {w0 W : World} {g : Nat} {f0 : List (S43)} {f1 : Bool} {α : Type} {d : Kd α} {e : Nat} {base : Nat} {ok : Nat → Prop} {v : Value} {xs : List α} (h : q04 w0 W g f0 f1) (ho : d.R e W base ok v xs) (ht : e ≠ 116) : some g ≠ v.ownBlock := by
 obtain ⟨A0, c0, hb, hg, hr0⟩ := h
 exact Kd.R_ne ho hb ht
theorem q04.apartQ {w0 W : World} {g : Nat} {f0 : List (S43)} {f1 : Bool} {α : Type} {d : Kd α} {e : Nat} {base : Nat} {ok : Nat → Prop} {v : Value} {xs : List α} (h : q04 w0 W g f0 f1) (ho : d.Q e W base ok v xs) (ht : ∀ q, q ∈ e :: d.E → q ≠ 116) : d.Q e W base (fun k => ok k ∧ k ≠ g) v xs := by
 obtain ⟨A0, c0, hb, hg, hr0⟩ := h
 exact Kd.Q_types ho hb ht
theorem q04.own_neQ {w0 W : World} {g : Nat} {f0 : List (S43)} {f1 : Bool} {α : Type} {d : Kd α} {e : Nat} {base : Nat} {ok : Nat → Prop} {v : Value} {xs : List α} (h : q04 w0 W g f0 f1) (ho : d.Q e W base ok v xs) (ht : e ≠ 116) : some g ≠ v.ownBlock := by
 obtain ⟨A0, c0, hb, hg, hr0⟩ := h
 exact Kd.Q_ne ho hb ht
theorem q04.apartS {w0 W : World} {g : Nat} {f0 : List (S43)} {f1 : Bool} {α : Type} {d : Kd α} {e : Nat} {base : Nat} {ok : Nat → Prop} {v : Value} {xs : List α} (h : q04 w0 W g f0 f1) (ho : d.S e W base ok v xs) (ht : ∀ q, q ∈ e :: d.E → q ≠ 116) : d.S e W base (fun k => ok k ∧ k ≠ g) v xs := by
 obtain ⟨A0, c0, hb, hg, hr0⟩ := h
 exact Kd.S_types ho hb ht
theorem q04.own_neS {w0 W : World} {g : Nat} {f0 : List (S43)} {f1 : Bool} {α : Type} {d : Kd α} {e : Nat} {base : Nat} {ok : Nat → Prop} {v : Value} {xs : List α} (h : q04 w0 W g f0 f1) (ho : d.S e W base ok v xs) (ht : e ≠ 116) : some g ≠ v.ownBlock := by
 obtain ⟨A0, c0, hb, hg, hr0⟩ := h
 exact Kd.S_ne ho hb ht
theorem q04.lt {w0 W : World} {g : Nat} {f0 : List (S43)} {f1 : Bool} (h : q04 w0 W g f0 f1) : g < W.heap.size := by
 obtain ⟨A0, c0, hb, hg, hr0⟩ := h
 exact q1j hb
theorem q04.ge {w0 W : World} {g : Nat} {f0 : List (S43)} {f1 : Bool} (h : q04 w0 W g f0 f1) : w0.heap.size ≤ g := by
 obtain ⟨A0, c0, hb, hg, hr0⟩ := h
 exact hg
theorem q04.ne_blk {w0 W : World} {g : Nat} {f0 : List (S43)} {f1 : Bool} {a : Nat} {cs : Array Value} {t : TypeId} {fr : Nat × Nat} (h : q04 w0 W g f0 f1) (hb2 : W.heap[a]? = some (.cells cs t fr)) (ht : t ≠ 116) : g ≠ a := by
 obtain ⟨A0, c0, hb, hg, hr0⟩ := h
 rintro rfl
 rw [hb] at hb2
 injection hb2 with hb2
 injection hb2 with _ ht2
 exact ht ht2.symm
theorem q04.far {w0 W : World} {g : Nat} {f0 : List (S43)} {f1 : Bool} {p : Addr} (h : q04 w0 W g f0 f1) (hne : g ≠ p.block) (u : Value) : q04 w0 (W.setCell p u) g f0 f1 := by
 obtain ⟨A0, c0, hb, hg, hr0⟩ := h
 exact ⟨A0, c0, q0u hb hne u, hg, hr0⟩
theorem q1y {W : World} {g : Nat} {A0 : Option Addr} {c0 : Nat} {f0 : List (S43)} {f1 : Bool} (h : W.heap[g]? = some (.cells #[.slice A0 f0.length c0, .bool f1] 116 (0, 0))) : W.cell? ⟨g, 0, none⟩ = some (.slice A0 f0.length c0) := (q05 h 0).trans rfl
theorem q1x {W : World} {g : Nat} {A0 : Option Addr} {c0 : Nat} {f0 : List (S43)} {f1 : Bool} (h : W.heap[g]? = some (.cells #[.slice A0 f0.length c0, .bool f1] 116 (0, 0))) : W.cell? ⟨g, 1, none⟩ = some (.bool f1) := (q05 h 1).trans rfl
theorem q04.set_1 {w0 W : World} {g : Nat} {f0 : List (S43)} {f1 : Bool} (h : q04 w0 W g f0 f1) (x : Bool) : q04 w0 (W.setCell ⟨g, 1, none⟩ (.bool x)) g f0 x := by
 obtain ⟨A0, c0, hb, hg, hr0⟩ := h
 exact ⟨A0, c0, by simpa using blk_set hb 1 (.bool x), hg, hr0⟩
theorem q04.new (w0 W : World) (A0 : Option Addr) (c0 : Nat) (f0 : List (S43)) (f1 : Bool) (hB : Below w0.heap.size w0 W) (hr0 : Kd.C k43 w0 A0 f0.length f0) : q04 w0 (W.alloc (.cells #[.slice A0 f0.length c0, .bool f1] 116)) W.heap.size f0 f1 := ⟨A0, c0, by simpa using heap_alloc_new W _, hB.size, hr0⟩
def walk_walker_path.l0 : Nat → Int → List Int → List (S43) → Bool → Option (List Int × Bool)
 | 0, _, _, _, _ => none
 | k + 1, x1, x4, x1000, x1001 => if x1 ≥ 0 then (if x4.length < 17592186044416 then (if 0 ≤ x1 then (if x1 < (x1000.length : Int) then (walk_walker_path.l0 k ((q00 x1000 x1).f4) (x4 ++ [x1]) x1000 x1001) else (none)) else (none)) else (none)) else ((slices_Reverse_int_int.f k x4).bind fun t205 => (some (t205, x1001)))
def walk_walker_path.f (k : Nat) (s0_0 : List (S43)) (s0_1 : Bool) (a1 : Int) : Option (List Int × Bool) := walk_walker_path.l0 k a1 ([] : List Int) s0_0 s0_1
theorem walk_walker_path.mono_l : ∀ k, (∀ y0 y1 y2 y3, LeO (walk_walker_path.l0 k y0 y1 y2 y3) (walk_walker_path.l0 (k + 1) y0 y1 y2 y3))
 | 0 => fun _ _ _ _ r h => by simp [walk_walker_path.l0] at h
 | k + 1 => by
  have ih0 := walk_walker_path.mono_l k
  ·intro y0 y1 y2 y3
   unfold walk_walker_path.l0
   repeat' first | with_reducible first | apply ih0 | apply slices_Reverse_int_int.mono | exact LeO.refl _ | exact LeO.none _ | refine LeO.ite ?_ ?_ | refine LeO.bind ?_ (fun _ => ?_) | (first | apply ih0 | apply slices_Reverse_int_int.mono | exact LeO.none _ | refine LeO.ite ?_ ?_ | refine LeO.bind ?_ (fun _ => ?_))
theorem walk_walker_path.mono : ∀ a0 a1 a2 k, LeO (walk_walker_path.f k a0 a1 a2) (walk_walker_path.f (k + 1) a0 a1 a2) := by
 intro a0 a1 a2 k
 have ih0 := walk_walker_path.mono_l k
 unfold walk_walker_path.f
 repeat' first | with_reducible first | apply ih0 | apply slices_Reverse_int_int.mono | exact LeO.refl _ | exact LeO.none _ | refine LeO.ite ?_ ?_ | refine LeO.bind ?_ (fun _ => ?_) | (first | apply ih0 | apply slices_Reverse_int_int.mono | exact LeO.none _ | refine LeO.ite ?_ ?_ | refine LeO.bind ?_ (fun _ => ?_))
set_option maxHeartbeats 8000000 in
set_option maxRecDepth 100000 in
theorem walk_walker_path.calls (k : Nat) (g : Nat) (s0_0 : List (S43)) (s0_1 : Bool) (a1 : Int) (r1 : List Int) (r2 : Bool) (w0 w : World) (hI : q04 w0 w g s0_0 s0_1) (hB : Below w0.heap.size w0 w) (h : walk_walker_path.f k s0_0 s0_1 a1 = some (r1, r2)) :
 Calls Tryd.prog 76 #[.pointer (some ⟨g, 0, none⟩), .int .i64 a1] w fun e w' => ∃ v0_ : Value, e = .returned (v0_) ∧ Kd.R (Kd.int .i64) 3 w' w.heap.size (fun _ => True) v0_ r1 ∧ q04 w0 w' g s0_0 r2 ∧ Below w0.heap.size w0 w' ∧ q07 w w' g none := by
 have HI0 := aS hI
 have HK := aS (q07.refl w g none)
 have HL := aS hB.size
 clear hI
 have HW0 := aS hB.size
 have HB := aS hB
 clear hB
 have H := h; clear h; unfold walk_walker_path.f at H
 have H' := aS H
 clear H
 go_enter Tryd.func76, Tryd.ntmps76
 go_wp2
 go_loopg [1, 4] k (fun kq v1 v4 w' => ∃ (x1_1 : Int) (x4_1 : List Int), v1 = .int .i64 x1_1 ∧ Aside0 (walk_walker_path.l0 kq x1_1 x4_1 s0_0 s0_1 = some (r1, r2)) ∧ Aside0 (kq ≤ k) ∧ Aside0 (Kd.R (Kd.int .i64) 3 w' w.heap.size (fun _ => True) v4 x4_1) ∧ Aside0 (q04 w0 w' g s0_0 s0_1) ∧ Aside0 (q07 w w' g none) ∧ Aside0 (Below w0.heap.size w0 w'))
 case atStart => exact ⟨(a1), (([] : List Int)), (by first | rfl | (simp; done) | simp [*]), H', ⟨Nat.le_refl _⟩, ⟨by first | exact Kd.R_nil _ _ _ _ _ | exact Kd.N_nil _ _ _ _ _ | exact Kd.V_nil _ _ _ _ _ | exact Kd.Q_nil _ _ _ _ _ | exact Kd.S_nil _ _ _ _ _⟩, ⟨by repeat (first | (with_reducible first | exact HI0.out | apply q04.alloc | apply q04.drewN | apply q04.drew | apply q04.set_1) | exact HI0.out)⟩, ⟨by repeat (first | (with_reducible first | exact HK.out | apply q07.set_ | apply q0a | apply q0h | apply q0b) | exact HK.out)⟩, ⟨by repeat (first | (with_reducible first | exact HB.out | apply bA | apply bN | apply bD | refine bS ?_ (q04.ge HI0.out)) | exact HB.out)⟩⟩
 case round =>
  clear H'
  obtain ⟨x1_1, x4_1, rfl, HA, HK1, HO_4, HI0, HK, HB⟩ := hrel
  cases gk with
  | zero => exact absurd HA.out (by simp [walk_walker_path.l0])
  | succ k1 =>
   have H := HA.out
   clear HA
   simp only [walk_walker_path.l0] at H
   refine iL H ?p3 ?n3 <;> clear H
   case' p3 =>
    intro c3b0 H
    refine iGp H ?_; clear H; intro c4 H
    have LMc4 := aS c4
    clear c4
    obtain ⟨y201, hy201⟩ : ∃ y_ : List Int, y_ = (x4_1 ++ [x1_1]) := ⟨_, rfl⟩
    replace H : (if 0 ≤ x1_1 then (if x1_1 < (s0_0.length : Int) then (walk_walker_path.l0 k1 ((q00 s0_0 x1_1).f4) y201 s0_0 s0_1) else (none)) else (none)) = some (r1, r2) := by first | (rw [hy201]; with_reducible exact H) | (have H2_ := (Option.bind_some _ _).symm.trans H; rw [hy201]; with_reducible exact H2_) | (have H2_ := (Option.bind_some _ _).symm.trans H; with_reducible exact H2_) | with_reducible exact H | (rw [hy201]; exact H) | exact H
    have Ny201 := aS hy201
    clear hy201
    refine iLp H ?_; clear H; intro c5b0 H
    refine iTp H ?_; clear H; intro c6b0 H
   case' n3 => intro c3b0 H
   case p3 =>
    have H' := aS H
    clear H
    go_wp2_with (first | ((with_reducible refine gate_builtin (b := .append) (xs := #[.tmp 16, .tmp 18]) rfl ?_); at_builtin; refine Kd.R_append (Kd.int .i64) w.heap.size rfl (.tmp 16) (.tmp 18) 31 3 (.int .i64 0) 8 rfl Tryd.underlying31 info3 rfl (by decide) (by omega) u4 x4_1 x1_1 [.int .i64 x1_1] (fun _ => True) (fun _ => False) rfl rfl ?aP (fun _ hk => hk.elim) ?aF ?aO (Below.refl _ _) ?aS ?aL ?_; (case aP => exact rfl); (case aF => exact (fun _ _ => trivial)); (case aO => exact (by (with_reducible repeat (first | apply rA | apply rN | apply rD)); exact HO_4.out)); (case aS => exact (keep_size (w := w) (g := g) (row := none) (by repeat (first | (with_reducible first | exact HK.out | apply q07.set_ | apply q0a | apply q0h | apply q0b) | exact HK.out)))); (case aL => have := LMc4.out; omega); intro v202 w7 ho hb hg hat; rw [← Ny201.out] at ho; have n0_ := aS (q04.grown (by repeat (first | (with_reducible first | exact HI0.out | apply q04.alloc | apply q04.drewN | apply q04.drew | apply q04.set_1) | exact HI0.out)) hg (q04.own_ne HI0.out HO_4.out (by decide))); have n1_ := aS (below_weaken (by repeat (first | (with_reducible first | exact HB.out | apply bA | apply bN | apply bD | refine bS ?_ (q04.ge HI0.out)) | exact HB.out)) HL.out hb); have n2_ := aS (q07.trans (by repeat (first | (with_reducible first | exact HK.out | apply q07.set_ | apply q0a | apply q0h | apply q0b) | exact HK.out)) (q07.of_grown hg g) (Kd.R_base2 HO_4.out)); have n3_ := aS (ho); clear HI0; clear HB; clear HK; clear HO_4; have HI0 := n0_; have HB := n1_; have HK := n2_; have HO203 := n3_; clear n0_ n1_ n2_ n3_; clear ho hb hg hat; obtain ⟨ASzL_0, cSzL_0, HGzL, hgzL, HSzL_0⟩ := HI0.out; have hczL_0 := q1y HGzL; have hczL_1 := q1x HGzL; have hfzL_1 := q0j HGzL 1; clear HGzL hgzL; obtain ⟨ad204, A204_2, c204_2, A204_5, c204_5, e204, hx204_0, hx204_1, hx204_2, hx204_3, hx204_4, hx204_5, HC204_2, HR204_2, HC204_5, HR204_5, p204, q204⟩ := q0p HB.out HSzL_0 x1_1 (by first | with_reducible assumption | assumption) (by first | with_reducible assumption | assumption); cases e204))
    go_roundg k1
    case measure => have := HK1.out; omega
    case rel => exact ⟨((q00 s0_0 x1_1).f4), (y201), (by first | rfl | (simp; done) | simp [*]), H', ⟨by have := HK1.out; omega⟩, ⟨by (with_reducible repeat (first | apply rA | apply rN | apply rD)); exact HO203.out⟩, ⟨by repeat (first | (with_reducible first | exact HI0.out | apply q04.alloc | apply q04.drewN | apply q04.drew | apply q04.set_1) | exact HI0.out)⟩, ⟨by repeat (first | (with_reducible first | exact HK.out | apply q07.set_ | apply q0a | apply q0h | apply q0b) | exact HK.out)⟩, ⟨by repeat (first | (with_reducible first | exact HB.out | apply bA | apply bN | apply bD | refine bS ?_ (q04.ge HI0.out)) | exact HB.out)⟩⟩
   case n3 =>
    replace H := iB H
    obtain ⟨t205, A9, H⟩ := H
    simp only [Option.some.injEq, Prod.mk.injEq] at H
    obtain ⟨rfl, rfl⟩ := H
    obtain ⟨Ao10, co10, eo10⟩ := Kd.R_slice HO_4.out
    subst eo10
    go_wp2_with (first | ((with_reducible refine q06 (f := 111) rfl ?_); refine q0k (some 21) rfl rfl Tryd.func111 (by kernel_rfl) rfl #[.slice Ao10 x4_1.length co10] rfl (by (try simp only [List.map_toArray, List.map_cons, List.map_nil]); first | done | rfl | (simp only [List.length_drop, List.length_take]; rfl)) ?_; (with_reducible refine (slices_Reverse_int_int.calls k1 (fun k_ => some k_ = (.slice Ao10 x4_1.length co10 : Value).ownBlock) (.slice Ao10 x4_1.length co10) x4_1 t205 w0 _ ?side1 ?side2 A9.out).mono ?_); (case side1 => repeat (first | (with_reducible first | exact HB.out | apply bA | apply bN | apply bD | refine bS ?_ (q04.ge HI0.out)) | exact HB.out)); (case side2 => exact Kd.R_lower (Kd.R_tight rfl HO_4.out) HL.out); rintro e w11 ⟨rfl, hy0, hb, hkp⟩; refine ⟨_, rfl, ?_⟩; have n0_ := aS (Kd.R_reok rfl (Kd.R_raise (d := (Kd.int .i64)) (b := w0.heap.size) (b' := w.heap.size) (fun _ _ _ _ h_ => h_) hy0 (fun k_ e_ => Or.elim (hy0.1 k_ e_) (fun hs_ => (fun e_ => Kd.R_base HO_4.out k_ e_.symm) hs_) (fun hn_ => Nat.le_trans (keep_size (w := w) (g := g) (row := none) (by repeat (first | (with_reducible first | exact HK.out | apply q07.set_ | apply q0a | apply q0h | apply q0b) | exact HK.out))) hn_))) (fun k_ e_ => HO_4.out.1 k_ e_)); have n1_ := aS (q04.kept (by repeat (first | (with_reducible first | exact HI0.out | apply q04.alloc | apply q04.drewN | apply q04.drew | apply q04.set_1) | exact HI0.out)) hkp (fun hs_ => (fun e_ => (q04.own_ne HI0.out HO_4.out (by decide)) e_) hs_)); have n2_ := aS (Kept.keepG (by repeat (first | (with_reducible first | exact HK.out | apply q07.set_ | apply q0a | apply q0h | apply q0b) | exact HK.out)) hkp (fun k_ hs_ => (fun e_ => .inr (Kd.R_base HO_4.out k_ e_.symm)) hs_)); have n3_ := aS (hb); clear HO_4; clear HI0; clear HK; clear HB; have HO_4 := n0_; have HI0 := n1_; have HK := n2_; have HB := n3_; clear n0_ n1_ n2_ n3_; (try clear hb); (try clear hkp); (try clear hy0)))
    go_ret
    exact ⟨_, by first | rfl | (simp [q02, q01] <;> rfl) | (simp [*, q02, q01] <;> rfl), by (with_reducible repeat (first | apply rA | apply rN | apply rD)); exact HO_4.out, by repeat (first | (with_reducible first | exact HI0.out | apply q04.alloc | apply q04.drewN | apply q04.drew | apply q04.set_1) | exact HI0.out), by repeat (first | (with_reducible first | exact HB.out | apply bA | apply bN | apply bD | refine bS ?_ (q04.ge HI0.out)) | exact HB.out), by repeat (first | (with_reducible first | exact HK.out | apply q07.set_ | apply q0a | apply q0h | apply q0b) | exact HK.out)⟩
def walk_check.outR (ns : List S43) : List Int → Bool
 | [] => false
 | n :: t => decide (n < 0) || (decide (n ≥ ns.length) || walk_check.outR ns t)
def walk_check.offR (k : Nat) (ns : List S43) (q : Bool) : List Int → Option Int
 | [] => some 0
 | n :: t => (walk_walker_path.f k ns q n).bind fun r => if 0 < r.1.length ∧ r.2 = q then (if rd r.1 0 = 0 then walk_check.offR k ns q t else some 5) else none
def walk_check.f (k : Nat) (ns : List S43) (q : Bool) (ll : List Int) : Option Int :=
 (dom_Check.f k ns q).bind fun e => if e = 0 then (if walk_check.outR ns ll = true then some 1 else walk_check.offR k ns q ll) else some e
def walk_check.left (ll : List Int) : Value → Nat
 | .int _ i => ll.length - i.toNat
 | _ => 0
theorem walk_check.blk {W W1 : World} {g : Nat} {o : Obj} (h : W.heap[g]? = some o) (hb : Below W.heap.size W W1) : W1.heap[g]? = some o := (hb.block g (by
 by_cases c : g < W.heap.size
 ·exact c
 ·rw [Array.getElem?_eq_none (by omega)] at h; cases h)).trans h
theorem walk_check.dropL (l : List Int) (i : Nat) (h : i < l.length) : l.drop i = rd l (i : Int) :: l.drop (i + 1) := by
 rw [List.drop_eq_getElem_cons h]
 congr 1
 simp [rd, List.getD, h]
set_option maxHeartbeats 8000000 in
set_option maxRecDepth 100000 in
theorem walk_check.calls (k : Nat) (A0 : Option Addr) (c0 : Nat) (l0 : List S43) (a1 : Bool) (Al : Option Addr) (cl : Nat) (ll : List Int) (r : Int) (w : World) (hr0 : Kd.C k43 w A0 l0.length l0) (hc0 : l0.length ≤ c0)
 (hrl : Kd.C (Kd.int .i64) w Al ll.length ll) (hcl : ll.length ≤ cl) (hll : ll.length ≤ 4611686018427387904) (h : walk_check.f k l0 a1 ll = some r) :
 Calls Tryd.prog 70 #[.agg #[.slice A0 l0.length c0, .bool a1], .slice Al ll.length cl] w fun e w' =>
  Below w.heap.size w w' ∧ ((r ≠ 0 ∧ e = .returned (.tuple #[.pointer none, .int .i64 r])) ∨ (r = 0 ∧ ∃ g, e = .returned (.tuple #[.pointer (some ⟨g, 0, none⟩), .int .i64 0]) ∧ q04 w w' g l0 a1)) := by
 have hu24 := Tryd.underlying24
 have hu116 := Tryd.underlying116
 unfold walk_check.f at h
 obtain ⟨e0, he0, h⟩ := Option.bind_eq_some_iff.1 h
 have HE := aS he0
 have HR := aS hr0
 have HC := aS hc0
 have HRl := aS hrl
 have HCl := aS hcl
 have HRL := aS hll
 have HB := aS (Below.refl w.heap.size w)
 clear he0 hr0 hc0 hrl hcl hll
 by_cases z0 : e0 = 0
 ·subst z0
  rw [if_pos rfl] at h
  have H := aS h
  clear h
  go_enter Tryd.func70, Tryd.ntmps70
  go_wp2_with (first
   | ((with_reducible refine q0c (N := 2) rfl ?_); refine q0q ?hg (N := 2) ?hd (cs := #[.slice A0 l0.length c0, .bool a1]) (t := 24) ?hr ?_; (case hd => rfl); (case hg => rfl); (case hr => first | (go_simp; done) | (go_simp; rfl)); intro gb hg wb hbox hb; have n0_ := aS (q03 (by repeat (first | exact HB.out | apply bA | apply bN | apply bD)) hb); have GEgb := aS (by rw [hg]; exact q0g (by repeat (first | exact HB.out | apply bA | apply bN | apply bD)) : w.heap.size ≤ gb); have BK := aS hbox; have hcz0 : wb.cell? ⟨gb, 0, none⟩ = some (.slice A0 l0.length c0) := (q05 BK.out 0).trans rfl; have hcz1 : wb.cell? ⟨gb, 1, none⟩ = some (.bool a1) := (q05 BK.out 1).trans rfl; clear HB; have HB := n0_; clear n0_ hg hbox hb)
   | (go_at_call 52; refine (dom_Check.calls k A0 c0 l0 a1 0 _ (Kd.C_below HR.out (by repeat (first | exact HB.out | apply bA | apply bN | apply bD))) HC.out HE.out).mono ?_; rintro e w1 ⟨rfl, hb⟩; replace HB := aS (q03 (by repeat (first | exact HB.out | apply bA | apply bN | apply bD)) hb); have BKn := aS (walk_check.blk BK.out hb); clear BK; have BK := BKn; clear BKn; clear hcz0 hcz1; have hcz0 : w1.cell? ⟨gb, 0, none⟩ = some (.slice A0 l0.length c0) := (q05 BK.out 0).trans rfl; have hcz1 : w1.cell? ⟨gb, 1, none⟩ = some (.bool a1) := (q05 BK.out 1).trans rfl; clear hb)
   | ((with_reducible refine q0c (N := 19) rfl ?_); refine q0q ?hg (N := 19) ?hd (cs := #[.slice A0 l0.length c0, .bool a1]) (t := 116) ?hr ?_; (case hd => rfl); (case hg => rfl); (case hr => first | (go_simp; done) | (go_simp; rfl)); intro g hg wg hbox hb; have n0_ := aS (q03 (by repeat (first | exact HB.out | apply bA | apply bN | apply bD)) hb); have GEg := aS (by rw [hg]; exact q0g (by repeat (first | exact HB.out | apply bA | apply bN | apply bD)) : w.heap.size ≤ g); have BG := aS hbox; have hgz0 : wg.cell? ⟨g, 0, none⟩ = some (.slice A0 l0.length c0) := (q05 BG.out 0).trans rfl; have hgz1 : wg.cell? ⟨g, 1, none⟩ = some (.bool a1) := (q05 BG.out 1).trans rfl; clear HB; have HB := n0_; have BKn := aS (walk_check.blk BK.out hb); clear BK; have BK := BKn; clear BKn; clear n0_ hg hbox hb))
  go_loopw [22] (fun v W => ∃ i : Nat, v = .int .i64 (i : Int) ∧ Aside0 (i ≤ ll.length) ∧ Aside0 (walk_check.outR l0 (ll.drop i) = walk_check.outR l0 ll) ∧ Aside0 (W.heap[gb]? = some (.cells #[.slice A0 l0.length c0, .bool a1] 24 (0, 0))) ∧ Aside0 (W.heap[g]? = some (.cells #[.slice A0 l0.length c0, .bool a1] 116 (0, 0))) ∧ Aside0 (Below w.heap.size w W)) (fun v _ => walk_check.left ll v)
  case atStart => exact ⟨0, rfl, ⟨Nat.zero_le _⟩, ⟨by rw [List.drop_zero]⟩, BK, BG, ⟨by repeat (first | exact HB.out | apply bA | apply bN | apply bD)⟩⟩
  case round =>
   clear BK BG HB
   obtain ⟨i, rfl, HI, HO, BK, BG, HB⟩ := hrel
   by_cases ci : i < ll.length
   ·have p1 : 0 ≤ (i : Int) := Int.natCast_nonneg _
    have q1 : (i : Int) < (ll.length : Int) := by omega
    obtain ⟨ad, rfl, hx⟩ := Kd.at_int HRl.out (i : Int) p1 q1
    replace hx := (HB.out.cell (World.block_lt_of_cell? w _ hx)).trans hx
    rw [show ((i : Int)).toNat = i from rfl] at hx
    have hO := HO.out
    rw [walk_check.dropL ll i ci] at hO
    have cib : decide ((i : Int) < (ll.length : Int)) = true := decide_eq_true q1
    have cib2 : decide (i < ll.length) = true := decide_eq_true ci
    replace p1 := eq_true p1
    replace q1 := eq_true q1
    have hcz0 := (q05 BK.out 0).trans rfl
    by_cases c1 : rd ll (i : Int) < 0
    ·have hbad : walk_check.outR l0 ll = true := by rw [← hO]; simp [walk_check.outR, c1]
     have h := H.out
     rw [if_pos hbad] at h
     obtain rfl := Option.some.inj h
     have c1b : decide (rd ll (i : Int) < 0) = true := decide_eq_true c1
     clear hO hbad h c1 ci
     go_wp2
     go_ret2
     exact ⟨by repeat (first | exact HB.out | apply bA | apply bN | apply bD), .inl ⟨by decide, rfl⟩⟩
    ·have c1b : decide (rd ll (i : Int) < 0) = false := decide_eq_false c1
     by_cases c2 : rd ll (i : Int) ≥ (l0.length : Int)
     ·have hbad : walk_check.outR l0 ll = true := by rw [← hO]; simp [walk_check.outR, c2]
      have h := H.out
      rw [if_pos hbad] at h
      obtain rfl := Option.some.inj h
      have c2b : decide ((l0.length : Int) ≤ rd ll (i : Int)) = true := decide_eq_true c2
      clear hO hbad h c1 c2 ci
      go_wp2
      go_ret2
      exact ⟨by repeat (first | exact HB.out | apply bA | apply bN | apply bD), .inl ⟨by decide, rfl⟩⟩
     ·have c2b : decide ((l0.length : Int) ≤ rd ll (i : Int)) = false := decide_eq_false c2
      have HO1 : Aside0 (walk_check.outR l0 (ll.drop (i + 1)) = walk_check.outR l0 ll) := ⟨by rw [← hO]; simp [walk_check.outR, c1, c2]⟩
      have hw : wrap64 ((i : Int) + 1) = ((i + 1 : Nat) : Int) := by have := HI.out; have := HRL.out; unfold wrap64; omega
      have CI := aS ci
      clear hO c1 c2 ci
      go_wp2
      go_roundw
      case rel => exact ⟨i + 1, by first | rfl | simp [hw], ⟨CI.out⟩, HO1, ⟨by exact BK.out⟩, ⟨by exact BG.out⟩, ⟨by repeat (first | exact HB.out | apply bA | apply bN | apply bD)⟩⟩
      case measure => have := CI.out; simp [walk_check.left, hw]; omega
   ·have cib : decide ((i : Int) < (ll.length : Int)) = false := decide_eq_false (by omega)
    have cib2 : decide (i < ll.length) = false := decide_eq_false ci
    have hO := HO.out
    rw [List.drop_eq_nil_of_le (by omega)] at hO
    have h := H.out
    rw [if_neg (by rw [← hO]; exact Bool.false_ne_true)] at h
    have HP0 := aS h
    have HI0 : Aside0 (q04 w wr g l0 a1) := ⟨⟨A0, c0, BG.out, GEg.out, HR.out⟩⟩
    clear ci hO h HO H HI BG BK
    go_wp2
    clear cib cib2
    go_loopw [38] (fun v W => ∃ i : Nat, v = .int .i64 (i : Int) ∧ Aside0 (i ≤ ll.length) ∧ Aside0 (walk_check.offR k l0 a1 (ll.drop i) = some r) ∧ Aside0 (q04 w W g l0 a1) ∧ Aside0 (Below w.heap.size w W)) (fun v _ => walk_check.left ll v)
    case atStart => exact ⟨0, rfl, ⟨Nat.zero_le _⟩, ⟨by rw [List.drop_zero]; exact HP0.out⟩, ⟨by repeat (first | exact HI0.out | apply q04.alloc | apply q04.drewN | apply q04.drew)⟩, ⟨by repeat (first | exact HB.out | apply bA | apply bN | apply bD)⟩⟩
    case round =>
     clear HI0 HB HP0
     obtain ⟨i, rfl, HI, HP, HI0, HB⟩ := hrel
     by_cases ci : i < ll.length
     ·have p1 : 0 ≤ (i : Int) := Int.natCast_nonneg _
      have q1 : (i : Int) < (ll.length : Int) := by omega
      obtain ⟨ad, rfl, hx⟩ := Kd.at_int HRl.out (i : Int) p1 q1
      replace hx := (HB.out.cell (World.block_lt_of_cell? w _ hx)).trans hx
      rw [show ((i : Int)).toNat = i from rfl] at hx
      have cib : decide ((i : Int) < (ll.length : Int)) = true := decide_eq_true q1
      have cib2 : decide (i < ll.length) = true := decide_eq_true ci
      replace p1 := eq_true p1
      replace q1 := eq_true q1
      have hp := HP.out
      rw [walk_check.dropL ll i ci, walk_check.offR] at hp
      obtain ⟨⟨pl, pq⟩, hpa, hp⟩ := Option.bind_eq_some_iff.1 hp
      have hw : wrap64 ((i : Int) + 1) = ((i + 1 : Nat) : Int) := by have := HRL.out; unfold wrap64; omega
      have CI := aS ci
      clear ci
      by_cases hc : 0 < pl.length ∧ pq = a1
      ·obtain ⟨hc, rfl⟩ := hc
       rw [if_pos ⟨hc, rfl⟩] at hp
       have HA := aS hpa
       clear hpa
       have p2 : 0 ≤ (0 : Int) := by decide
       have q2 : (0 : Int) < (pl.length : Int) := by omega
       have q2b : 0 < pl.length := hc
       by_cases hz : rd pl 0 = 0
       ·rw [if_pos hz] at hp
        have HP1 := aS hp
        have hzb : (rd pl 0 != 0) = false := bne_eq_false_iff_eq.mpr hz
        clear hp HP hz
        go_wp2_with (go_at_call 76; refine (walk_walker_path.calls k g l0 pq (rd ll (i : Int)) pl pq w _ (by repeat (first | exact HI0.out | apply q04.alloc | apply q04.drewN | apply q04.drew)) (by repeat (first | exact HB.out | apply bA | apply bN | apply bD)) HA.out).mono ?_; rintro e w2 ⟨v0, rfl, ho, hI2, hb2, hk⟩; obtain ⟨Ao, co, eo⟩ := Kd.R_slice ho; subst eo; obtain ⟨ad2, e2, hy⟩ := Kd.at_int (Kd.R_reads' ho).2.2 0 p2 q2; subst e2; rw [show ((0 : Int)).toNat = 0 from rfl, show ad2.add 0 = ad2 from rfl] at hy; replace p2 := eq_true p2; replace q2 := eq_true q2; clear HI0 HB; have HI0 := aS hI2; have HB := aS hb2; clear hI2 hb2 hk ho)
        go_roundw
        case rel => exact ⟨i + 1, by first | rfl | simp [hw], ⟨CI.out⟩, HP1, ⟨by repeat (first | exact HI0.out | apply q04.alloc | apply q04.drewN | apply q04.drew)⟩, ⟨by repeat (first | exact HB.out | apply bA | apply bN | apply bD)⟩⟩
        case measure => have := CI.out; simp [walk_check.left, hw]; omega
       ·rw [if_neg hz] at hp
        obtain rfl := Option.some.inj hp
        have hzb : (rd pl 0 != 0) = true := bne_iff_ne.mpr hz
        clear hp HP hz
        go_wp2_with (go_at_call 76; refine (walk_walker_path.calls k g l0 pq (rd ll (i : Int)) pl pq w _ (by repeat (first | exact HI0.out | apply q04.alloc | apply q04.drewN | apply q04.drew)) (by repeat (first | exact HB.out | apply bA | apply bN | apply bD)) HA.out).mono ?_; rintro e w2 ⟨v0, rfl, ho, hI2, hb2, hk⟩; obtain ⟨Ao, co, eo⟩ := Kd.R_slice ho; subst eo; obtain ⟨ad2, e2, hy⟩ := Kd.at_int (Kd.R_reads' ho).2.2 0 p2 q2; subst e2; rw [show ((0 : Int)).toNat = 0 from rfl, show ad2.add 0 = ad2 from rfl] at hy; replace p2 := eq_true p2; replace q2 := eq_true q2; clear HI0 HB; have HI0 := aS hI2; have HB := aS hb2; clear hI2 hb2 hk ho)
        trace_state
        go_ret2
        exact ⟨by repeat (first | exact HB.out | apply bA | apply bN | apply bD), .inl ⟨by decide, rfl⟩⟩
      ·rw [if_neg hc] at hp
       cases hp
     ·have cib : decide ((i : Int) < (ll.length : Int)) = false := decide_eq_false (by omega)
      have cib2 : decide (i < ll.length) = false := decide_eq_false ci
      have hp := HP.out
      rw [List.drop_eq_nil_of_le (by omega), walk_check.offR] at hp
      obtain rfl := Option.some.inj hp
      clear ci hp HP HI
      go_wp2
      go_ret2
      exact ⟨by repeat (first | exact HB.out | apply bA | apply bN | apply bD), by first | exact .inr ⟨rfl, g, rfl, by repeat (first | exact HI0.out | apply q04.alloc | apply q04.drewN | apply q04.drew)⟩ | exact ⟨g, rfl, by repeat (first | exact HI0.out | apply q04.alloc | apply q04.drewN | apply q04.drew)⟩⟩
 ·rw [if_neg z0] at h
  obtain rfl := Option.some.inj h
  have z0b : (e0 != 0) = true := bne_iff_ne.mpr z0
  have Z0 := aS z0
  clear z0 h
  go_enter Tryd.func70, Tryd.ntmps70
  go_wp2_with (first
   | ((with_reducible refine q0c (N := 2) rfl ?_); refine q0q ?hg (N := 2) ?hd (cs := #[.slice A0 l0.length c0, .bool a1]) (t := 24) ?hr ?_; (case hd => rfl); (case hg => rfl); (case hr => first | (go_simp; done) | (go_simp; rfl)); intro gb hg wb hbox hb; have n0_ := aS (q03 (by repeat (first | exact HB.out | apply bA | apply bN | apply bD)) hb); have GEgb := aS (by rw [hg]; exact q0g (by repeat (first | exact HB.out | apply bA | apply bN | apply bD)) : w.heap.size ≤ gb); have BK := aS hbox; have hcz0 : wb.cell? ⟨gb, 0, none⟩ = some (.slice A0 l0.length c0) := (q05 BK.out 0).trans rfl; have hcz1 : wb.cell? ⟨gb, 1, none⟩ = some (.bool a1) := (q05 BK.out 1).trans rfl; clear HB; have HB := n0_; clear n0_ hg hbox hb)
   | (go_at_call 52; refine (dom_Check.calls k A0 c0 l0 a1 e0 _ (Kd.C_below HR.out (by repeat (first | exact HB.out | apply bA | apply bN | apply bD))) HC.out HE.out).mono ?_; rintro e w1 ⟨rfl, hb⟩; replace HB := aS (q03 (by repeat (first | exact HB.out | apply bA | apply bN | apply bD)) hb); clear hb))
  go_ret2
  exact ⟨by repeat (first | exact HB.out | apply bA | apply bN | apply bD), .inl ⟨Z0.out, rfl⟩⟩
theorem Kd_C_nil (W : World) : Kd.C (Kd.int .i64) W none ([] : List Int).length [] := (Kd.R_reads' (Kd.R_nil (Kd.int .i64) 3 W 0 (fun _ => True))).2.2
theorem walk_check.calls0 (k : Nat) (A0 : Option Addr) (c0 : Nat) (l0 : List S43) (a1 : Bool) (Al : Option Addr) (cl : Nat) (ll : List Int) (w : World) (hr0 : Kd.C k43 w A0 l0.length l0) (hc0 : l0.length ≤ c0)
 (hrl : Kd.C (Kd.int .i64) w Al ll.length ll) (hcl : ll.length ≤ cl) (hll : ll.length ≤ 4611686018427387904) (h : walk_check.f k l0 a1 ll = some 0) :
 Calls Tryd.prog 70 #[.agg #[.slice A0 l0.length c0, .bool a1], .slice Al ll.length cl] w fun e w' => Below w.heap.size w w' ∧ ∃ g, e = .returned (.tuple #[.pointer (some ⟨g, 0, none⟩), .int .i64 0]) ∧ q04 w w' g l0 a1 :=
 (walk_check.calls k A0 c0 l0 a1 Al cl ll 0 w hr0 hc0 hrl hcl hll h).mono fun e w' ⟨hb, h1⟩ => ⟨hb, by
  rcases h1 with ⟨h1, _⟩ | ⟨_, h1⟩
  ·exact absurd rfl h1
  ·exact h1⟩
theorem walk_check.callsE (k : Nat) (A0 : Option Addr) (c0 : Nat) (l0 : List S43) (a1 : Bool) (Al : Option Addr) (cl : Nat) (ll : List Int) (r : Int) (hr : r ≠ 0) (w : World) (hr0 : Kd.C k43 w A0 l0.length l0) (hc0 : l0.length ≤ c0)
 (hrl : Kd.C (Kd.int .i64) w Al ll.length ll) (hcl : ll.length ≤ cl) (hll : ll.length ≤ 4611686018427387904) (h : walk_check.f k l0 a1 ll = some r) :
 Calls Tryd.prog 70 #[.agg #[.slice A0 l0.length c0, .bool a1], .slice Al ll.length cl] w fun e w' => Below w.heap.size w w' ∧ e = .returned (.tuple #[.pointer none, .int .i64 r]) :=
 (walk_check.calls k A0 c0 l0 a1 Al cl ll r w hr0 hc0 hrl hcl hll h).mono fun e w' ⟨hb, h1⟩ => ⟨hb, by
  rcases h1 with ⟨_, h1⟩ | ⟨h1, _⟩
  ·exact h1
  ·exact absurd h1 hr⟩
theorem walk_check.nil0 (k : Nat) (A0 : Option Addr) (c0 : Nat) (l0 : List S43) (a1 : Bool) (w : World) (hr0 : Kd.C k43 w A0 l0.length l0) (hc0 : l0.length ≤ c0) (h : walk_check.f k l0 a1 [] = some 0) :
 Calls Tryd.prog 70 #[.agg #[.slice A0 l0.length c0, .bool a1], .slice none 0 0] w fun e w' => Below w.heap.size w w' ∧ ∃ g, e = .returned (.tuple #[.pointer (some ⟨g, 0, none⟩), .int .i64 0]) ∧ q04 w w' g l0 a1 :=
 walk_check.calls0 k A0 c0 l0 a1 none 0 [] w hr0 hc0 (Kd_C_nil w) (by simp) (by simp) h
theorem walk_check.nilE (k : Nat) (A0 : Option Addr) (c0 : Nat) (l0 : List S43) (a1 : Bool) (r : Int) (hr : r ≠ 0) (w : World) (hr0 : Kd.C k43 w A0 l0.length l0) (hc0 : l0.length ≤ c0) (h : walk_check.f k l0 a1 [] = some r) :
 Calls Tryd.prog 70 #[.agg #[.slice A0 l0.length c0, .bool a1], .slice none 0 0] w fun e w' => Below w.heap.size w w' ∧ e = .returned (.tuple #[.pointer none, .int .i64 r]) :=
 walk_check.callsE k A0 c0 l0 a1 none 0 [] r hr w hr0 hc0 (Kd_C_nil w) (by simp) (by simp) h
theorem walk_check.offR_mono (k : Nat) (ns : List S43) (q : Bool) : ∀ ll, LeO (walk_check.offR k ns q ll) (walk_check.offR (k + 1) ns q ll)
 | [] => LeO.refl _
 | n :: t => LeO.bind (walk_walker_path.mono ns q n k) fun _ => LeO.ite (LeO.ite (walk_check.offR_mono k ns q t) (LeO.refl _)) (LeO.refl _)
theorem walk_check.mono (ns : List S43) (q : Bool) (ll : List Int) (k : Nat) : LeO (walk_check.f k ns q ll) (walk_check.f (k + 1) ns q ll) :=
 LeO.bind (dom_Check.mono ns q k) fun _ => LeO.ite (LeO.ite (LeO.refl _) (walk_check.offR_mono k ns q ll)) (LeO.refl _)
def slices_Index_int_int.l0 : Nat → List Int → Int → Int → Int → Option (Int)
 | 0, _, _, _, _ => none
 | k + 1, x0, x1, x7, x8 => if x8 < x7 then (if 0 ≤ x8 then (if x8 < (x0.length : Int) then (if x1 = (rd x0 x8) then (some x8) else (slices_Index_int_int.l0 k x0 x1 x7 (wrap64 (x8 + 1)))) else (none)) else (none)) else (some (-1))
def slices_Index_int_int.f (k : Nat) (l0 : List Int) (a1 : Int) : Option (Int) := slices_Index_int_int.l0 k l0 a1 (l0.length : Int) 0
theorem slices_Index_int_int.mono_l : ∀ k, (∀ y0 y1 y2 y3, LeO (slices_Index_int_int.l0 k y0 y1 y2 y3) (slices_Index_int_int.l0 (k + 1) y0 y1 y2 y3))
 | 0 => fun _ _ _ _ r h => by simp [slices_Index_int_int.l0] at h
 | k + 1 => by
  have ih0 := slices_Index_int_int.mono_l k
  ·intro y0 y1 y2 y3
   unfold slices_Index_int_int.l0
   repeat' first | with_reducible first | apply ih0 | exact LeO.refl _ | exact LeO.none _ | refine LeO.ite ?_ ?_ | refine LeO.bind ?_ (fun _ => ?_) | (first | apply ih0 | exact LeO.none _ | refine LeO.ite ?_ ?_ | refine LeO.bind ?_ (fun _ => ?_))
theorem slices_Index_int_int.mono : ∀ a0 a1 k, LeO (slices_Index_int_int.f k a0 a1) (slices_Index_int_int.f (k + 1) a0 a1) := by
 intro a0 a1 k
 have ih0 := slices_Index_int_int.mono_l k
 unfold slices_Index_int_int.f
 repeat' first | with_reducible first | apply ih0 | exact LeO.refl _ | exact LeO.none _ | refine LeO.ite ?_ ?_ | refine LeO.bind ?_ (fun _ => ?_) | (first | apply ih0 | exact LeO.none _ | refine LeO.ite ?_ ?_ | refine LeO.bind ?_ (fun _ => ?_))
set_option maxHeartbeats 8000000 in
set_option maxRecDepth 100000 in
theorem slices_Index_int_int.calls (k : Nat) (A0 : Option Addr) (c0 : Nat) (l0 : List Int) (a1 : Int) (r : Int) (w : World) (hr0 : Kd.C (Kd.int .i64) w A0 l0.length l0) (hc0 : l0.length ≤ c0) (h : slices_Index_int_int.f k l0 a1 = some r) :
 Calls Tryd.prog 77 #[.slice A0 l0.length c0, .int .i64 a1] w fun e w' => e = .returned (.int .i64 r) ∧ Drawn0 w w' := by
 have HR0 := aS hr0
 have HC0 := aS hc0
 clear hr0 hc0
 have H := h; clear h; unfold slices_Index_int_int.f at H
 have H' := aS H
 clear H
 go_enter Tryd.func77, Tryd.ntmps77
 go_wp2
 go_loopg [8] k (fun kq v8 w' => ∃ (x8_1 : Int), v8 = .int .i64 x8_1 ∧ Aside0 (slices_Index_int_int.l0 kq l0 a1 (l0.length : Int) x8_1 = some r) ∧ Aside0 (kq ≤ k) ∧ Drawn0 w w')
 case atStart => exact ⟨(0), (by first | rfl | (simp; done) | simp [*]), H', ⟨Nat.le_refl _⟩, by repeat (first | exact Drawn0.refl _ | apply Drawn0.step)⟩
 case round =>
  clear H'
  obtain ⟨x8_1, rfl, HA, HK1, ⟨m1, rfl⟩⟩ := hrel
  cases gk with
  | zero => exact absurd HA.out (by simp [slices_Index_int_int.l0])
  | succ k1 =>
   have H := HA.out
   clear HA
   simp only [slices_Index_int_int.l0] at H
   refine iT H ?p3 ?n3 <;> clear H
   case' p3 =>
    intro c3b0 H
    refine iLp H ?_; clear H; intro c4b0 H
    refine iTp H ?_; clear H; intro c5b0 H
    obtain ⟨ad206, e206, hx206_0, p206, q206⟩ := atIA HR0.out x8_1 (by first | with_reducible assumption | assumption) (by first | with_reducible assumption | assumption)
    cases e206
    refine iE H ?p6 ?n6 <;> clear H
   case' p6 => intro c6b0 c6b1 H
   case' n6 => intro c6 c6b0 c6b1 H
   case' n3 => intro c3b0 H
   case p6|n3 =>
    obtain rfl := Option.some.inj H
    go_wp2
    go_ret
    exact ⟨by first | rfl | (simp; done) | (simp [*]; done), by repeat (first | exact Drawn0.refl _ | apply Drawn0.step)⟩
   case n6 =>
    have H' := aS H
    clear H
    go_wp2
    go_roundg k1
    case measure => have := HK1.out; omega
    case rel => exact ⟨(wrap64 (x8_1 + 1)), (by first | rfl | (simp; done) | simp [*]), H', ⟨by have := HK1.out; omega⟩, by repeat (first | exact Drawn0.refl _ | apply Drawn0.step)⟩
end Go.Proofs.YthjnallbbhnndaaDoor.XWp
namespace Go.Proofs.YthjnallbbhnndaaDoor.XWp
open Go.Proofs.YthjnallbbhnndaaDoor.Short Go.RowKit Go.Proofs.YthjnallbbhnndaaDoorW.PrintWords Go.Proofs.YthjnallbbhnndaaDoorW.PrintLast Go.Proofs.YthjnallbbhnndaaDoorW.PrintMore
attribute [local go_sem] q15 q13 q1i q1h q0x q0w q14 q12   -- for this text's walks alone
set_option linter.unusedVariables false
set_option linter.unusedSimpArgs false
def walk_walker_beside.f (k : Nat) (s0_0 : List (S43)) (s0_1 : Bool) (a1 : Int) (a2 : Int) : Option (Int × Bool) := if 0 ≤ a1 then (if a1 < (s0_0.length : Int) then (if ((q00 s0_0 a1).f4) < 0 then (some ((-1), s0_1)) else (if 0 ≤ ((q00 s0_0 a1).f4) then (if ((q00 s0_0 a1).f4) < (s0_0.length : Int) then ((slices_Index_int_int.f k ((q00 s0_0 ((q00 s0_0 a1).f4)).f5) a1).bind fun t209 => (if (wrap64 (t209 + a2)) < 0 then (some ((-1), s0_1)) else (if (wrap64 (t209 + a2)) ≥ (((q00 s0_0 ((q00 s0_0 a1).f4)).f5).length : Int) then (some ((-1), s0_1)) else (if 0 ≤ (wrap64 (t209 + a2)) then (if (wrap64 (t209 + a2)) < (((q00 s0_0 ((q00 s0_0 a1).f4)).f5).length : Int) then (some (rd ((q00 s0_0 ((q00 s0_0 a1).f4)).f5) (wrap64 (t209 + a2)), s0_1)) else (none)) else (none))))) else (none)) else (none))) else (none)) else (none)
theorem walk_walker_beside.mono : ∀ a0 a1 a2 a3 k, LeO (walk_walker_beside.f k a0 a1 a2 a3) (walk_walker_beside.f (k + 1) a0 a1 a2 a3) := by
 intro a0 a1 a2 a3 k
 unfold walk_walker_beside.f
 repeat' first | with_reducible first | apply slices_Index_int_int.mono | exact LeO.refl _ | exact LeO.none _ | refine LeO.ite ?_ ?_ | refine LeO.bind ?_ (fun _ => ?_) | (first | apply slices_Index_int_int.mono | exact LeO.none _ | refine LeO.ite ?_ ?_ | refine LeO.bind ?_ (fun _ => ?_))
set_option maxHeartbeats 8000000 in
set_option maxRecDepth 100000 in
theorem walk_walker_beside.calls (k : Nat) (g : Nat) (s0_0 : List (S43)) (s0_1 : Bool) (a1 : Int) (a2 : Int) (r1 : Int) (r2 : Bool) (w0 w : World) (hI : q04 w0 w g s0_0 s0_1) (hB : Below w0.heap.size w0 w) (h : walk_walker_beside.f k s0_0 s0_1 a1 a2 = some (r1, r2)) :
 Calls Tryd.prog 119 #[.pointer (some ⟨g, 0, none⟩), .int .i64 a1, .int .i64 a2] w fun e w' => e = .returned (.int .i64 r1) ∧ q04 w0 w' g s0_0 r2 ∧ Below w0.heap.size w0 w' ∧ q07 w w' g none := by
 have HI0 := aS hI
 have HK := aS (q07.refl w g none)
 have HL := aS hB.size
 clear hI
 have HW0 := aS hB.size
 have HB := aS hB
 clear hB
 have H := h; clear h; unfold walk_walker_beside.f at H
 obtain ⟨ASzL_0, cSzL_0, HGzL, hgzL, HSzL_0⟩ := HI0.out
 have hczL_0 := q1y HGzL
 have hczL_1 := q1x HGzL
 have hfzL_1 := q0j HGzL 1
 clear HGzL hgzL
 refine iLp H ?_; clear H; intro c4b0 H
 refine iTp H ?_; clear H; intro c5b0 H
 refine iT H ?p6 ?n6 <;> clear H
 case' p6 => intro c6b0 H
 case' n6 => intro c6b0 H; refine iLp H ?_; clear H; intro c8b0 H; refine iTp H ?_; clear H; intro c9b0 H; replace H := iB H; obtain ⟨t209, A10, H⟩ := H; refine iT H ?p11 ?n11 <;> clear H
 case' p11 => intro c11b0 H
 case' n11 => intro c11b0 H; refine iL H ?p13 ?n13 <;> clear H
 case' p13 => intro c13b0 H
 case' n13 =>
  intro c13b0 H
  obtain ⟨ji15, hji15⟩ : ∃ j_ : Int, (wrap64 (t209 + a2)) = j_ := ⟨_, rfl⟩
  replace H : (if 0 ≤ (ji15) then (if (ji15) < (((q00 s0_0 ((q00 s0_0 a1).f4)).f5).length : Int) then (some (rd ((q00 s0_0 ((q00 s0_0 a1).f4)).f5) (ji15), s0_1)) else (none)) else (none)) = some (r1, r2) := by first | (rw [hji15] at H; exact H) | (simp only [hji15] at H ⊢; exact H)
  (try rw [hji15] at c11b0)
  (try rw [hji15] at c13b0)
  (try rw [hji15] at A10)
  have hji15w : (IntKind.i64.wrap (t209 + a2)) = ji15 := (q0d _).trans hji15
  refine iLp H ?_; clear H; intro c16b0 H
  refine iTp H ?_; clear H; intro c17b0 H
 case p6 =>
  simp only [Option.some.injEq, Prod.mk.injEq] at H
  obtain ⟨rfl, rfl⟩ := H
  obtain ⟨ad207, A207_2, c207_2, A207_5, c207_5, e207, hx207_0, hx207_1, hx207_2, hx207_3, hx207_4, hx207_5, HC207_2, HR207_2, HC207_5, HR207_5, p207, q207⟩ := q0p HB.out HSzL_0 a1 (by first | with_reducible assumption | assumption) (by first | with_reducible assumption | assumption)
  cases e207
  go_enter Tryd.func119, Tryd.ntmps119
  go_wp2
  go_ret
  exact ⟨by first | rfl | (simp [q02, q01] <;> rfl) | (simp [*, q02, q01] <;> rfl), by repeat (first | (with_reducible first | exact HI0.out | apply q04.alloc | apply q04.drewN | apply q04.drew | apply q04.set_1) | exact HI0.out), by repeat (first | (with_reducible first | exact HB.out | apply bA | apply bN | apply bD | refine bS ?_ (q04.ge HI0.out)) | exact HB.out), by repeat (first | (with_reducible first | exact HK.out | apply q07.set_ | apply q0a | apply q0h | apply q0b) | exact HK.out)⟩
 case p11|p13 =>
  simp only [Option.some.injEq, Prod.mk.injEq] at H
  obtain ⟨rfl, rfl⟩ := H
  obtain ⟨ad207, A207_2, c207_2, A207_5, c207_5, e207, hx207_0, hx207_1, hx207_2, hx207_3, hx207_4, hx207_5, HC207_2, HR207_2, HC207_5, HR207_5, p207, q207⟩ := q0p HB.out HSzL_0 a1 (by first | with_reducible assumption | assumption) (by first | with_reducible assumption | assumption)
  cases e207
  obtain ⟨ad208, A208_2, c208_2, A208_5, c208_5, e208, hx208_0, hx208_1, hx208_2, hx208_3, hx208_4, hx208_5, HC208_2, HR208_2, HC208_5, HR208_5, p208, q208⟩ := q0p HB.out HSzL_0 ((q00 s0_0 a1).f4) (by first | with_reducible assumption | assumption) (by first | with_reducible assumption | assumption)
  obtain rfl : ad207 = ad208 := (by injection e208)
  go_enter Tryd.func119, Tryd.ntmps119
  go_wp2_with (first | ((with_reducible refine q06 (f := 77) rfl ?_); refine q0k (some 32) rfl rfl Tryd.func77 (by kernel_rfl) rfl #[.slice A208_5 ((q00 s0_0 ((q00 s0_0 a1).f4)).f5).length c208_5, .int .i64 a1] rfl (by (try simp only [List.map_toArray, List.map_cons, List.map_nil]); first | done | rfl | (simp only [List.length_drop, List.length_take]; rfl)) ?_; (with_reducible refine (slices_Index_int_int.calls k _ _ ((q00 s0_0 ((q00 s0_0 a1).f4)).f5) a1 t209 _ ?side1 ?side2 A10.out).mono ?_); (case side1 => exact (Kd.C_below HR208_5.out (by repeat (first | (with_reducible first | exact HB.out | apply bA | apply bN | apply bD) | exact HB.out)))); (case side2 => exact HC208_5.out); rintro e w' ⟨rfl, ⟨nd, rfl⟩⟩; refine ⟨_, rfl, ?_⟩))
  go_ret
  exact ⟨by first | rfl | (simp [q02, q01] <;> rfl) | (simp [*, q02, q01] <;> rfl), by repeat (first | (with_reducible first | exact HI0.out | apply q04.alloc | apply q04.drewN | apply q04.drew | apply q04.set_1) | exact HI0.out), by repeat (first | (with_reducible first | exact HB.out | apply bA | apply bN | apply bD | refine bS ?_ (q04.ge HI0.out)) | exact HB.out), by repeat (first | (with_reducible first | exact HK.out | apply q07.set_ | apply q0a | apply q0h | apply q0b) | exact HK.out)⟩
 case n13 =>
  simp only [Option.some.injEq, Prod.mk.injEq] at H
  obtain ⟨rfl, rfl⟩ := H
  obtain ⟨ad207, A207_2, c207_2, A207_5, c207_5, e207, hx207_0, hx207_1, hx207_2, hx207_3, hx207_4, hx207_5, HC207_2, HR207_2, HC207_5, HR207_5, p207, q207⟩ := q0p HB.out HSzL_0 a1 (by first | with_reducible assumption | assumption) (by first | with_reducible assumption | assumption)
  cases e207
  obtain ⟨ad208, A208_2, c208_2, A208_5, c208_5, e208, hx208_0, hx208_1, hx208_2, hx208_3, hx208_4, hx208_5, HC208_2, HR208_2, HC208_5, HR208_5, p208, q208⟩ := q0p HB.out HSzL_0 ((q00 s0_0 a1).f4) (by first | with_reducible assumption | assumption) (by first | with_reducible assumption | assumption)
  obtain rfl : ad207 = ad208 := (by injection e208)
  go_enter Tryd.func119, Tryd.ntmps119
  go_wp2_with (first | ((with_reducible refine q06 (f := 77) rfl ?_); refine q0k (some 32) rfl rfl Tryd.func77 (by kernel_rfl) rfl #[.slice A208_5 ((q00 s0_0 ((q00 s0_0 a1).f4)).f5).length c208_5, .int .i64 a1] rfl (by (try simp only [List.map_toArray, List.map_cons, List.map_nil]); first | done | rfl | (simp only [List.length_drop, List.length_take]; rfl)) ?_; (with_reducible refine (slices_Index_int_int.calls k _ _ ((q00 s0_0 ((q00 s0_0 a1).f4)).f5) a1 t209 _ ?side1 ?side2 A10.out).mono ?_); (case side1 => exact (Kd.C_below HR208_5.out (by repeat (first | (with_reducible first | exact HB.out | apply bA | apply bN | apply bD) | exact HB.out)))); (case side2 => exact HC208_5.out); rintro e w' ⟨rfl, ⟨nd, rfl⟩⟩; refine ⟨_, rfl, ?_⟩; obtain ⟨ad210, e210, hx210_0, p210, q210⟩ := atIB HB.out HR208_5.out (ji15) (by first | with_reducible assumption | assumption) (by first | with_reducible assumption | assumption); cases e210))
  go_ret
  exact ⟨by first | rfl | (simp [q02, q01] <;> rfl) | (simp only [← hji15]; first | rfl | (simp [q02, q01] <;> rfl)) | (simp [*, q02, q01] <;> rfl), by repeat (first | (with_reducible first | exact HI0.out | apply q04.alloc | apply q04.drewN | apply q04.drew | apply q04.set_1) | exact HI0.out), by repeat (first | (with_reducible first | exact HB.out | apply bA | apply bN | apply bD | refine bS ?_ (q04.ge HI0.out)) | exact HB.out), by repeat (first | (with_reducible first | exact HK.out | apply q07.set_ | apply q0a | apply q0h | apply q0b) | exact HK.out)⟩
def walk_walker_over.l0 : Nat → Int → List (S43) → Bool → Option (Int × Bool)
 | 0, _, _, _ => none
 | k + 1, x1, x1000, x1001 => if x1 ≥ 0 then ((walk_walker_beside.f k x1000 x1001 x1 1).bind fun bt211 => (if bt211.1 ≥ 0 then (some (bt211.1, bt211.2)) else (if 0 ≤ x1 then (if x1 < (x1000.length : Int) then (walk_walker_over.l0 k ((q00 x1000 x1).f4) x1000 bt211.2) else (none)) else (none)))) else (some ((-1), x1001))
def walk_walker_over.f (k : Nat) (s0_0 : List (S43)) (s0_1 : Bool) (a1 : Int) : Option (Int × Bool) := walk_walker_over.l0 k a1 s0_0 s0_1
theorem walk_walker_over.mono_l : ∀ k, (∀ y0 y1 y2, LeO (walk_walker_over.l0 k y0 y1 y2) (walk_walker_over.l0 (k + 1) y0 y1 y2))
 | 0 => fun _ _ _ r h => by simp [walk_walker_over.l0] at h
 | k + 1 => by
  have ih0 := walk_walker_over.mono_l k
  ·intro y0 y1 y2
   unfold walk_walker_over.l0
   repeat' first | with_reducible first | apply ih0 | apply walk_walker_beside.mono | exact LeO.refl _ | exact LeO.none _ | refine LeO.ite ?_ ?_ | refine LeO.bind ?_ (fun _ => ?_) | (first | apply ih0 | apply walk_walker_beside.mono | exact LeO.none _ | refine LeO.ite ?_ ?_ | refine LeO.bind ?_ (fun _ => ?_))
theorem walk_walker_over.mono : ∀ a0 a1 a2 k, LeO (walk_walker_over.f k a0 a1 a2) (walk_walker_over.f (k + 1) a0 a1 a2) := by
 intro a0 a1 a2 k
 have ih0 := walk_walker_over.mono_l k
 unfold walk_walker_over.f
 repeat' first | with_reducible first | apply ih0 | apply walk_walker_beside.mono | exact LeO.refl _ | exact LeO.none _ | refine LeO.ite ?_ ?_ | refine LeO.bind ?_ (fun _ => ?_) | (first | apply ih0 | apply walk_walker_beside.mono | exact LeO.none _ | refine LeO.ite ?_ ?_ | refine LeO.bind ?_ (fun _ => ?_))
set_option maxHeartbeats 8000000 in
set_option maxRecDepth 100000 in
theorem walk_walker_over.calls (k : Nat) (g : Nat) (s0_0 : List (S43)) (s0_1 : Bool) (a1 : Int) (r1 : Int) (r2 : Bool) (w0 w : World) (hI : q04 w0 w g s0_0 s0_1) (hB : Below w0.heap.size w0 w) (h : walk_walker_over.f k s0_0 s0_1 a1 = some (r1, r2)) :
 Calls Tryd.prog 117 #[.pointer (some ⟨g, 0, none⟩), .int .i64 a1] w fun e w' => e = .returned (.int .i64 r1) ∧ q04 w0 w' g s0_0 r2 ∧ Below w0.heap.size w0 w' ∧ q07 w w' g none := by
 have HI0 := aS hI
 have HK := aS (q07.refl w g none)
 have HL := aS hB.size
 clear hI
 have HW0 := aS hB.size
 have HB := aS hB
 clear hB
 have H := h; clear h; unfold walk_walker_over.f at H
 have H' := aS H
 clear H
 go_enter Tryd.func117, Tryd.ntmps117
 go_wp2
 go_loopg [1] k (fun kq v1 w' => ∃ (x1_1 : Int) (x1001_1 : Bool), v1 = .int .i64 x1_1 ∧ Aside0 (walk_walker_over.l0 kq x1_1 s0_0 x1001_1 = some (r1, r2)) ∧ Aside0 (kq ≤ k) ∧ Aside0 (q04 w0 w' g s0_0 x1001_1) ∧ Aside0 (q07 w w' g none) ∧ Aside0 (Below w0.heap.size w0 w'))
 case atStart => exact ⟨(a1), (s0_1), (by first | rfl | (simp; done) | simp [*]), H', ⟨Nat.le_refl _⟩, ⟨by repeat (first | (with_reducible first | exact HI0.out | apply q04.alloc | apply q04.drewN | apply q04.drew | apply q04.set_1) | exact HI0.out)⟩, ⟨by repeat (first | (with_reducible first | exact HK.out | apply q07.set_ | apply q0a | apply q0h | apply q0b) | exact HK.out)⟩, ⟨by repeat (first | (with_reducible first | exact HB.out | apply bA | apply bN | apply bD | refine bS ?_ (q04.ge HI0.out)) | exact HB.out)⟩⟩
 case round =>
  clear H'
  obtain ⟨x1_1, x1001_1, rfl, HA, HK1, HI0, HK, HB⟩ := hrel
  cases gk with
  | zero => exact absurd HA.out (by simp [walk_walker_over.l0])
  | succ k1 =>
   have H := HA.out
   clear HA
   simp only [walk_walker_over.l0] at H
   refine iL H ?p3 ?n3 <;> clear H
   case' p3 => intro c3b0 H; replace H := iB H; obtain ⟨⟨t211, t212⟩, A4, H⟩ := H; try dsimp only at H; refine iL H ?p5 ?n5 <;> clear H
   case' p5 => intro c5b0 H
   case' n5 => intro c5b0 H; refine iLp H ?_; clear H; intro c7b0 H; refine iTp H ?_; clear H; intro c8b0 H
   case' n3 => intro c3b0 H
   case p5 =>
    simp only [Option.some.injEq, Prod.mk.injEq] at H
    obtain ⟨rfl, rfl⟩ := H
    go_wp2_with (first | ((with_reducible refine q06 (f := 119) rfl ?_); refine q0k (some 19) rfl rfl Tryd.func119 (by kernel_rfl) rfl #[.pointer (some ⟨g, 0, none⟩), .int .i64 x1_1, .int .i64 1] rfl (by (try simp only [List.map_toArray, List.map_cons, List.map_nil]); first | done | rfl | (simp only [List.length_drop, List.length_take]; rfl)) ?_; (with_reducible refine (walk_walker_beside.calls k1 g s0_0 x1001_1 x1_1 1 t211 t212 w0 _ ?side1 ?side2 A4.out).mono ?_); (case side1 => repeat (first | (with_reducible first | exact HI0.out | apply q04.alloc | apply q04.drewN | apply q04.drew | apply q04.set_1) | exact HI0.out)); (case side2 => repeat (first | (with_reducible first | exact HB.out | apply bA | apply bN | apply bD | refine bS ?_ (q04.ge HI0.out)) | exact HB.out)); rintro e w6 ⟨rfl, hi, hb, hk⟩; refine ⟨_, rfl, ?_⟩; replace HK := aS (q07.trans (by repeat (first | (with_reducible first | exact HK.out | apply q07.set_ | apply q0a | apply q0h | apply q0b) | exact HK.out)) hk (.inl rfl)); replace HI0 := aS (hi); replace HB := aS (hb); (try clear hb); (try clear hb2); (try clear hk); (try clear hi)))
    go_ret
    exact ⟨by first | rfl | (simp [q02, q01] <;> rfl) | (simp [*, q02, q01] <;> rfl), by repeat (first | (with_reducible first | exact HI0.out | apply q04.alloc | apply q04.drewN | apply q04.drew | apply q04.set_1) | exact HI0.out), by repeat (first | (with_reducible first | exact HB.out | apply bA | apply bN | apply bD | refine bS ?_ (q04.ge HI0.out)) | exact HB.out), by repeat (first | (with_reducible first | exact HK.out | apply q07.set_ | apply q0a | apply q0h | apply q0b) | exact HK.out)⟩
   case n5 =>
    have H' := aS H
    clear H
    go_wp2_with (first | ((with_reducible refine q06 (f := 119) rfl ?_); refine q0k (some 19) rfl rfl Tryd.func119 (by kernel_rfl) rfl #[.pointer (some ⟨g, 0, none⟩), .int .i64 x1_1, .int .i64 1] rfl (by (try simp only [List.map_toArray, List.map_cons, List.map_nil]); first | done | rfl | (simp only [List.length_drop, List.length_take]; rfl)) ?_; (with_reducible refine (walk_walker_beside.calls k1 g s0_0 x1001_1 x1_1 1 t211 t212 w0 _ ?side1 ?side2 A4.out).mono ?_); (case side1 => repeat (first | (with_reducible first | exact HI0.out | apply q04.alloc | apply q04.drewN | apply q04.drew | apply q04.set_1) | exact HI0.out)); (case side2 => repeat (first | (with_reducible first | exact HB.out | apply bA | apply bN | apply bD | refine bS ?_ (q04.ge HI0.out)) | exact HB.out)); rintro e w9 ⟨rfl, hi, hb, hk⟩; refine ⟨_, rfl, ?_⟩; replace HK := aS (q07.trans (by repeat (first | (with_reducible first | exact HK.out | apply q07.set_ | apply q0a | apply q0h | apply q0b) | exact HK.out)) hk (.inl rfl)); replace HI0 := aS (hi); replace HB := aS (hb); (try clear hb); (try clear hb2); (try clear hk); (try clear hi); obtain ⟨ASzL_0, cSzL_0, HGzL, hgzL, HSzL_0⟩ := HI0.out; have hczL_0 := q1y HGzL; have hczL_1 := q1x HGzL; have hfzL_1 := q0j HGzL 1; clear HGzL hgzL; obtain ⟨ad213, A213_2, c213_2, A213_5, c213_5, e213, hx213_0, hx213_1, hx213_2, hx213_3, hx213_4, hx213_5, HC213_2, HR213_2, HC213_5, HR213_5, p213, q213⟩ := q0p HB.out HSzL_0 x1_1 (by first | with_reducible assumption | assumption) (by first | with_reducible assumption | assumption); cases e213))
    go_roundg k1
    case measure => have := HK1.out; omega
    case rel => exact ⟨((q00 s0_0 x1_1).f4), (t212), (by first | rfl | (simp; done) | simp [*]), H', ⟨by have := HK1.out; omega⟩, ⟨by repeat (first | (with_reducible first | exact HI0.out | apply q04.alloc | apply q04.drewN | apply q04.drew | apply q04.set_1) | exact HI0.out)⟩, ⟨by repeat (first | (with_reducible first | exact HK.out | apply q07.set_ | apply q0a | apply q0h | apply q0b) | exact HK.out)⟩, ⟨by repeat (first | (with_reducible first | exact HB.out | apply bA | apply bN | apply bD | refine bS ?_ (q04.ge HI0.out)) | exact HB.out)⟩⟩
   case n3 =>
    simp only [Option.some.injEq, Prod.mk.injEq] at H
    obtain ⟨rfl, rfl⟩ := H
    go_wp2
    go_ret
    exact ⟨by first | rfl | (simp [q02, q01] <;> rfl) | (simp [*, q02, q01] <;> rfl), by repeat (first | (with_reducible first | exact HI0.out | apply q04.alloc | apply q04.drewN | apply q04.drew | apply q04.set_1) | exact HI0.out), by repeat (first | (with_reducible first | exact HB.out | apply bA | apply bN | apply bD | refine bS ?_ (q04.ge HI0.out)) | exact HB.out), by repeat (first | (with_reducible first | exact HK.out | apply q07.set_ | apply q0a | apply q0h | apply q0b) | exact HK.out)⟩
def walk_walker_kid.f (s0_0 : List (S43)) (s0_1 : Bool) (a1 : Int) (a2 : Bool) : Option (Int × Bool) := if 0 ≤ a1 then (if a1 < (s0_0.length : Int) then (if (((q00 s0_0 a1).f5).length : Int) = 0 then (some ((-1), s0_1)) else (if a2 = true then (if 0 ≤ (wrap64 ((((q00 s0_0 a1).f5).length : Int) - 1)) then (if (wrap64 ((((q00 s0_0 a1).f5).length : Int) - 1)) < (((q00 s0_0 a1).f5).length : Int) then (some (rd ((q00 s0_0 a1).f5) (wrap64 ((((q00 s0_0 a1).f5).length : Int) - 1)), s0_1)) else (none)) else (none)) else (if 0 < (((q00 s0_0 a1).f5).length : Int) then (some (rd ((q00 s0_0 a1).f5) 0, s0_1)) else (none)))) else (none)) else (none)
set_option maxHeartbeats 8000000 in
set_option maxRecDepth 100000 in
theorem walk_walker_kid.calls (g : Nat) (s0_0 : List (S43)) (s0_1 : Bool) (a1 : Int) (a2 : Bool) (r1 : Int) (r2 : Bool) (w0 w : World) (hI : q04 w0 w g s0_0 s0_1) (hB : Below w0.heap.size w0 w) (h : walk_walker_kid.f s0_0 s0_1 a1 a2 = some (r1, r2)) :
 Calls Tryd.prog 118 #[.pointer (some ⟨g, 0, none⟩), .int .i64 a1, .bool a2] w fun e w' => e = .returned (.int .i64 r1) ∧ q04 w0 w' g s0_0 r2 ∧ Below w0.heap.size w0 w' ∧ q07 w w' g none := by
 have HI0 := aS hI
 have HK := aS (q07.refl w g none)
 have HL := aS hB.size
 clear hI
 have HW0 := aS hB.size
 have HB := aS hB
 clear hB
 have H := h; clear h; unfold walk_walker_kid.f at H
 obtain ⟨ASzL_0, cSzL_0, HGzL, hgzL, HSzL_0⟩ := HI0.out
 have hczL_0 := q1y HGzL
 have hczL_1 := q1x HGzL
 have hfzL_1 := q0j HGzL 1
 clear HGzL hgzL
 refine iLp H ?_; clear H; intro c4b0 H
 refine iTp H ?_; clear H; intro c5b0 H
 refine iG H ?p6 ?n6 <;> clear H
 case' p6 => intro c6 H; have c6b0 : ((((q00 s0_0 a1).f5).length : Int) == 0) = true := beq_iff_eq.mpr c6; have c6b1 : ((((q00 s0_0 a1).f5).length : Int) != 0) = false := bne_eq_false_iff_eq.mpr c6; clear c6
 case' n6 => intro c6 H; have c6b0 : ((((q00 s0_0 a1).f5).length : Int) == 0) = false := beq_eq_false_iff_ne.mpr c6; have c6b1 : ((((q00 s0_0 a1).f5).length : Int) != 0) = true := bne_iff_ne.mpr c6; have c6b2 : ¬ (((q00 s0_0 a1).f5) = []) := fun h_ => c6 (by rw [h_]; rfl); refine iV H ?p8 ?n8 <;> clear H
 case' p8 =>
  intro c8 H; subst c8
  obtain ⟨ji9, hji9⟩ : ∃ j_ : Int, (wrap64 ((((q00 s0_0 a1).f5).length : Int) - 1)) = j_ := ⟨_, rfl⟩
  replace H : (if 0 ≤ (ji9) then (if (ji9) < (((q00 s0_0 a1).f5).length : Int) then (some (rd ((q00 s0_0 a1).f5) (ji9), s0_1)) else (none)) else (none)) = some (r1, r2) := by first | (rw [hji9] at H; exact H) | (simp only [hji9] at H ⊢; exact H)
  have hji9w : (IntKind.i64.wrap ((((q00 s0_0 a1).f5).length : Int) - 1)) = ji9 := (q0d _).trans hji9
  refine iLp H ?_; clear H; intro c10b0 H
  refine iTp H ?_; clear H; intro c11b0 H
 case' n8 => intro c8 H; subst c8; refine iTNp (m := 0) (n := ((q00 s0_0 a1).f5).length) H rfl rfl ?_; clear H; intro c13b0 c13b1 H
 case p6 =>
  simp only [Option.some.injEq, Prod.mk.injEq] at H
  obtain ⟨rfl, rfl⟩ := H
  obtain ⟨ad214, A214_2, c214_2, A214_5, c214_5, e214, hx214_0, hx214_1, hx214_2, hx214_3, hx214_4, hx214_5, HC214_2, HR214_2, HC214_5, HR214_5, p214, q214⟩ := q0p HB.out HSzL_0 a1 (by first | with_reducible assumption | assumption) (by first | with_reducible assumption | assumption)
  cases e214
  go_enter Tryd.func118, Tryd.ntmps118
  go_wp2
  go_ret
  exact ⟨by first | rfl | (simp [q02, q01] <;> rfl) | (simp [*, q02, q01] <;> rfl), by repeat (first | (with_reducible first | exact HI0.out | apply q04.alloc | apply q04.drewN | apply q04.drew | apply q04.set_1) | exact HI0.out), by repeat (first | (with_reducible first | exact HB.out | apply bA | apply bN | apply bD | refine bS ?_ (q04.ge HI0.out)) | exact HB.out), by repeat (first | (with_reducible first | exact HK.out | apply q07.set_ | apply q0a | apply q0h | apply q0b) | exact HK.out)⟩
 case p8 =>
  simp only [Option.some.injEq, Prod.mk.injEq] at H
  obtain ⟨rfl, rfl⟩ := H
  obtain ⟨ad214, A214_2, c214_2, A214_5, c214_5, e214, hx214_0, hx214_1, hx214_2, hx214_3, hx214_4, hx214_5, HC214_2, HR214_2, HC214_5, HR214_5, p214, q214⟩ := q0p HB.out HSzL_0 a1 (by first | with_reducible assumption | assumption) (by first | with_reducible assumption | assumption)
  cases e214
  obtain ⟨ad215, e215, hx215_0, p215, q215⟩ := atIB HB.out HR214_5.out (ji9) (by first | with_reducible assumption | assumption) (by first | with_reducible assumption | assumption)
  cases e215
  go_enter Tryd.func118, Tryd.ntmps118
  go_wp2
  go_ret
  exact ⟨by first | rfl | (simp [q02, q01] <;> rfl) | (simp only [← hji9]; first | rfl | (simp [q02, q01] <;> rfl)) | (simp [*, q02, q01] <;> rfl), by repeat (first | (with_reducible first | exact HI0.out | apply q04.alloc | apply q04.drewN | apply q04.drew | apply q04.set_1) | exact HI0.out), by repeat (first | (with_reducible first | exact HB.out | apply bA | apply bN | apply bD | refine bS ?_ (q04.ge HI0.out)) | exact HB.out), by repeat (first | (with_reducible first | exact HK.out | apply q07.set_ | apply q0a | apply q0h | apply q0b) | exact HK.out)⟩
 case n8 =>
  simp only [Option.some.injEq, Prod.mk.injEq] at H
  obtain ⟨rfl, rfl⟩ := H
  obtain ⟨ad214, A214_2, c214_2, A214_5, c214_5, e214, hx214_0, hx214_1, hx214_2, hx214_3, hx214_4, hx214_5, HC214_2, HR214_2, HC214_5, HR214_5, p214, q214⟩ := q0p HB.out HSzL_0 a1 (by first | with_reducible assumption | assumption) (by first | with_reducible assumption | assumption)
  cases e214
  have p216 : 0 ≤ (0 : Int) := (by omega)
  have q216 : 0 < (((q00 s0_0 a1).f5).length : Int) := od (by first | (with_reducible assumption) | assumption)
  obtain ⟨ad216, e216, hx216_0⟩ := Kd.at_int HR214_5.out 0 p216 q216
  cases e216
  have qi216 : (0 < ((q00 s0_0 a1).f5).length) = True := eq_true (by omega)
  (try rw [show ((0 : Int)).toNat = 0 from rfl] at hx216_0)
  (try rw [Addr.add_zero'] at hx216_0)
  replace hx216_0 := q09 HB.out hx216_0
  replace p216 := eq_true p216
  replace q216 := eq_true q216
  go_enter Tryd.func118, Tryd.ntmps118
  go_wp2
  go_ret
  exact ⟨by first | rfl | (simp [q02, q01] <;> rfl) | (simp [*, q02, q01] <;> rfl), by repeat (first | (with_reducible first | exact HI0.out | apply q04.alloc | apply q04.drewN | apply q04.drew | apply q04.set_1) | exact HI0.out), by repeat (first | (with_reducible first | exact HB.out | apply bA | apply bN | apply bD | refine bS ?_ (q04.ge HI0.out)) | exact HB.out), by repeat (first | (with_reducible first | exact HK.out | apply q07.set_ | apply q0a | apply q0h | apply q0b) | exact HK.out)⟩
def walk_walker_next.f (k : Nat) (s0_0 : List (S43)) (s0_1 : Bool) (a1 : Int) : Option (Int × Bool) := (walk_walker_kid.f s0_0 s0_1 a1 false).bind fun bt217 => (if bt217.1 ≥ 0 then (some (bt217.1, bt217.2)) else ((walk_walker_over.f k s0_0 bt217.2 a1).bind fun bt219 => (some (bt219.1, bt219.2))))
theorem walk_walker_next.mono : ∀ a0 a1 a2 k, LeO (walk_walker_next.f k a0 a1 a2) (walk_walker_next.f (k + 1) a0 a1 a2) := by
 intro a0 a1 a2 k
 unfold walk_walker_next.f
 repeat' first | with_reducible first | apply walk_walker_over.mono | exact LeO.refl _ | exact LeO.none _ | refine LeO.ite ?_ ?_ | refine LeO.bind ?_ (fun _ => ?_) | (first | apply walk_walker_over.mono | exact LeO.none _ | refine LeO.ite ?_ ?_ | refine LeO.bind ?_ (fun _ => ?_))
set_option maxHeartbeats 8000000 in
set_option maxRecDepth 100000 in
theorem walk_walker_next.calls (k : Nat) (g : Nat) (s0_0 : List (S43)) (s0_1 : Bool) (a1 : Int) (r1 : Int) (r2 : Bool) (w0 w : World) (hI : q04 w0 w g s0_0 s0_1) (hB : Below w0.heap.size w0 w) (h : walk_walker_next.f k s0_0 s0_1 a1 = some (r1, r2)) :
 Calls Tryd.prog 115 #[.pointer (some ⟨g, 0, none⟩), .int .i64 a1] w fun e w' => e = .returned (.int .i64 r1) ∧ q04 w0 w' g s0_0 r2 ∧ Below w0.heap.size w0 w' ∧ q07 w w' g none := by
 have HI0 := aS hI
 have HK := aS (q07.refl w g none)
 have HL := aS hB.size
 clear hI
 have HW0 := aS hB.size
 have HB := aS hB
 clear hB
 have H := h; clear h; unfold walk_walker_next.f at H
 replace H := iB H
 obtain ⟨⟨t217, t218⟩, A3, H⟩ := H
 try dsimp only at H
 refine iL H ?p4 ?n4 <;> clear H
 case' p4 => intro c4b0 H
 case' n4 => intro c4b0 H
 case p4 =>
  simp only [Option.some.injEq, Prod.mk.injEq] at H
  obtain ⟨rfl, rfl⟩ := H
  go_enter Tryd.func115, Tryd.ntmps115
  go_wp2_with (first | ((with_reducible refine q06 (f := 118) rfl ?_); refine q0k (some 8) rfl rfl Tryd.func118 (by kernel_rfl) rfl #[.pointer (some ⟨g, 0, none⟩), .int .i64 a1, .bool false] rfl (by (try simp only [List.map_toArray, List.map_cons, List.map_nil]); first | done | rfl | (simp only [List.length_drop, List.length_take]; rfl)) ?_; (with_reducible refine (walk_walker_kid.calls g s0_0 s0_1 a1 false t217 t218 w0 _ ?side1 ?side2 A3.out).mono ?_); (case side1 => repeat (first | (with_reducible first | exact HI0.out | apply q04.alloc | apply q04.drewN | apply q04.drew | apply q04.set_1) | exact HI0.out)); (case side2 => repeat (first | (with_reducible first | exact HB.out | apply bA | apply bN | apply bD | refine bS ?_ (q04.ge HI0.out)) | exact HB.out)); rintro e w5 ⟨rfl, hi, hb, hk⟩; refine ⟨_, rfl, ?_⟩; replace HK := aS (q07.trans (by repeat (first | (with_reducible first | exact HK.out | apply q07.set_ | apply q0a | apply q0h | apply q0b) | exact HK.out)) hk (.inl rfl)); replace HI0 := aS (hi); replace HB := aS (hb); (try clear hb); (try clear hb2); (try clear hk); (try clear hi)))
  go_ret
  exact ⟨by first | rfl | (simp [q02, q01] <;> rfl) | (simp [*, q02, q01] <;> rfl), by repeat (first | (with_reducible first | exact HI0.out | apply q04.alloc | apply q04.drewN | apply q04.drew | apply q04.set_1) | exact HI0.out), by repeat (first | (with_reducible first | exact HB.out | apply bA | apply bN | apply bD | refine bS ?_ (q04.ge HI0.out)) | exact HB.out), by repeat (first | (with_reducible first | exact HK.out | apply q07.set_ | apply q0a | apply q0h | apply q0b) | exact HK.out)⟩
 case n4 =>
  replace H := iB H
  obtain ⟨⟨t219, t220⟩, A6, H⟩ := H
  try dsimp only at H
  simp only [Option.some.injEq, Prod.mk.injEq] at H
  obtain ⟨rfl, rfl⟩ := H
  go_enter Tryd.func115, Tryd.ntmps115
  go_wp2_with (first | ((with_reducible refine q06 (f := 118) rfl ?_); refine q0k (some 8) rfl rfl Tryd.func118 (by kernel_rfl) rfl #[.pointer (some ⟨g, 0, none⟩), .int .i64 a1, .bool false] rfl (by (try simp only [List.map_toArray, List.map_cons, List.map_nil]); first | done | rfl | (simp only [List.length_drop, List.length_take]; rfl)) ?_; (with_reducible refine (walk_walker_kid.calls g s0_0 s0_1 a1 false t217 t218 w0 _ ?side1 ?side2 A3.out).mono ?_); (case side1 => repeat (first | (with_reducible first | exact HI0.out | apply q04.alloc | apply q04.drewN | apply q04.drew | apply q04.set_1) | exact HI0.out)); (case side2 => repeat (first | (with_reducible first | exact HB.out | apply bA | apply bN | apply bD | refine bS ?_ (q04.ge HI0.out)) | exact HB.out)); rintro e w7 ⟨rfl, hi, hb, hk⟩; refine ⟨_, rfl, ?_⟩; replace HK := aS (q07.trans (by repeat (first | (with_reducible first | exact HK.out | apply q07.set_ | apply q0a | apply q0h | apply q0b) | exact HK.out)) hk (.inl rfl)); replace HI0 := aS (hi); replace HB := aS (hb); (try clear hb); (try clear hb2); (try clear hk); (try clear hi)) | ((with_reducible refine q06 (f := 117) rfl ?_); refine q0k (some 14) rfl rfl Tryd.func117 (by kernel_rfl) rfl #[.pointer (some ⟨g, 0, none⟩), .int .i64 a1] rfl (by (try simp only [List.map_toArray, List.map_cons, List.map_nil]); first | done | rfl | (simp only [List.length_drop, List.length_take]; rfl)) ?_; (with_reducible refine (walk_walker_over.calls k g s0_0 t218 a1 t219 t220 w0 _ ?side1 ?side2 A6.out).mono ?_); (case side1 => repeat (first | (with_reducible first | exact HI0.out | apply q04.alloc | apply q04.drewN | apply q04.drew | apply q04.set_1) | exact HI0.out)); (case side2 => repeat (first | (with_reducible first | exact HB.out | apply bA | apply bN | apply bD | refine bS ?_ (q04.ge HI0.out)) | exact HB.out)); rintro e w8 ⟨rfl, hi, hb, hk⟩; refine ⟨_, rfl, ?_⟩; replace HK := aS (q07.trans (by repeat (first | (with_reducible first | exact HK.out | apply q07.set_ | apply q0a | apply q0h | apply q0b) | exact HK.out)) hk (.inl rfl)); replace HI0 := aS (hi); replace HB := aS (hb); (try clear hb); (try clear hb2); (try clear hk); (try clear hi)))
  go_ret
  exact ⟨by first | rfl | (simp [q02, q01] <;> rfl) | (simp [*, q02, q01] <;> rfl), by repeat (first | (with_reducible first | exact HI0.out | apply q04.alloc | apply q04.drewN | apply q04.drew | apply q04.set_1) | exact HI0.out), by repeat (first | (with_reducible first | exact HB.out | apply bA | apply bN | apply bD | refine bS ?_ (q04.ge HI0.out)) | exact HB.out), by repeat (first | (with_reducible first | exact HK.out | apply q07.set_ | apply q0a | apply q0h | apply q0b) | exact HK.out)⟩
def walk_walker_last.l0 : Nat → Int → List (S43) → Bool → Option (Int × Bool)
 | 0, _, _, _ => none
 | k + 1, x5, x1000, x1001 => (walk_walker_kid.f x1000 x1001 x5 true).bind fun bt224 => (if bt224.1 ≥ 0 then ((walk_walker_kid.f x1000 bt224.2 x5 true).bind fun bt226 => (walk_walker_last.l0 k bt226.1 x1000 bt226.2)) else (some (x5, bt224.2)))
def walk_walker_last.f (k : Nat) (s0_0 : List (S43)) (s0_1 : Bool) (a1 : Int) : Option (Int × Bool) := (walk_walker_beside.f k s0_0 s0_1 a1 (-1)).bind fun bt221 => (if bt221.1 < 0 then (if 0 ≤ a1 then (if a1 < (s0_0.length : Int) then (some ((q00 s0_0 a1).f4, bt221.2)) else (none)) else (none)) else (walk_walker_last.l0 k bt221.1 s0_0 bt221.2))
theorem walk_walker_last.mono_l : ∀ k, (∀ y0 y1 y2, LeO (walk_walker_last.l0 k y0 y1 y2) (walk_walker_last.l0 (k + 1) y0 y1 y2))
 | 0 => fun _ _ _ r h => by simp [walk_walker_last.l0] at h
 | k + 1 => by
  have ih0 := walk_walker_last.mono_l k
  ·intro y0 y1 y2
   unfold walk_walker_last.l0
   repeat' first | with_reducible first | apply ih0 | apply walk_walker_beside.mono | exact LeO.refl _ | exact LeO.none _ | refine LeO.ite ?_ ?_ | refine LeO.bind ?_ (fun _ => ?_) | (first | apply ih0 | apply walk_walker_beside.mono | exact LeO.none _ | refine LeO.ite ?_ ?_ | refine LeO.bind ?_ (fun _ => ?_))
theorem walk_walker_last.mono : ∀ a0 a1 a2 k, LeO (walk_walker_last.f k a0 a1 a2) (walk_walker_last.f (k + 1) a0 a1 a2) := by
 intro a0 a1 a2 k
 have ih0 := walk_walker_last.mono_l k
 unfold walk_walker_last.f
 repeat' first | with_reducible first | apply ih0 | apply walk_walker_beside.mono | exact LeO.refl _ | exact LeO.none _ | refine LeO.ite ?_ ?_ | refine LeO.bind ?_ (fun _ => ?_) | (first | apply ih0 | apply walk_walker_beside.mono | exact LeO.none _ | refine LeO.ite ?_ ?_ | refine LeO.bind ?_ (fun _ => ?_))
set_option maxHeartbeats 8000000 in
set_option maxRecDepth 100000 in
theorem walk_walker_last.calls (k : Nat) (g : Nat) (s0_0 : List (S43)) (s0_1 : Bool) (a1 : Int) (r1 : Int) (r2 : Bool) (w0 w : World) (hI : q04 w0 w g s0_0 s0_1) (hB : Below w0.heap.size w0 w) (h : walk_walker_last.f k s0_0 s0_1 a1 = some (r1, r2)) :
 Calls Tryd.prog 116 #[.pointer (some ⟨g, 0, none⟩), .int .i64 a1] w fun e w' => e = .returned (.int .i64 r1) ∧ q04 w0 w' g s0_0 r2 ∧ Below w0.heap.size w0 w' ∧ q07 w w' g none := by
 have HI0 := aS hI
 have HK := aS (q07.refl w g none)
 have HL := aS hB.size
 clear hI
 have HW0 := aS hB.size
 have HB := aS hB
 clear hB
 have H := h; clear h; unfold walk_walker_last.f at H
 replace H := iB H
 obtain ⟨⟨t221, t222⟩, A3, H⟩ := H
 try dsimp only at H
 refine iT H ?p4 ?n4 <;> clear H
 case' p4 => intro c4b0 H; refine iLp H ?_; clear H; intro c5b0 H; refine iTp H ?_; clear H; intro c6b0 H
 case' n4 => intro c4b0 H
 case p4 =>
  simp only [Option.some.injEq, Prod.mk.injEq] at H
  obtain ⟨rfl, rfl⟩ := H
  go_enter Tryd.func116, Tryd.ntmps116
  go_wp2_with (first | ((with_reducible refine q06 (f := 119) rfl ?_); refine q0k (some 8) rfl rfl Tryd.func119 (by kernel_rfl) rfl #[.pointer (some ⟨g, 0, none⟩), .int .i64 a1, .int .i64 (-1)] rfl (by (try simp only [List.map_toArray, List.map_cons, List.map_nil]); first | done | rfl | (simp only [List.length_drop, List.length_take]; rfl)) ?_; (with_reducible refine (walk_walker_beside.calls k g s0_0 s0_1 a1 (-1) t221 t222 w0 _ ?side1 ?side2 A3.out).mono ?_); (case side1 => repeat (first | (with_reducible first | exact HI0.out | apply q04.alloc | apply q04.drewN | apply q04.drew | apply q04.set_1) | exact HI0.out)); (case side2 => repeat (first | (with_reducible first | exact HB.out | apply bA | apply bN | apply bD | refine bS ?_ (q04.ge HI0.out)) | exact HB.out)); rintro e w7 ⟨rfl, hi, hb, hk⟩; refine ⟨_, rfl, ?_⟩; replace HK := aS (q07.trans (by repeat (first | (with_reducible first | exact HK.out | apply q07.set_ | apply q0a | apply q0h | apply q0b) | exact HK.out)) hk (.inl rfl)); replace HI0 := aS (hi); replace HB := aS (hb); (try clear hb); (try clear hb2); (try clear hk); (try clear hi); obtain ⟨ASzL_0, cSzL_0, HGzL, hgzL, HSzL_0⟩ := HI0.out; have hczL_0 := q1y HGzL; have hczL_1 := q1x HGzL; have hfzL_1 := q0j HGzL 1; clear HGzL hgzL; obtain ⟨ad223, A223_2, c223_2, A223_5, c223_5, e223, hx223_0, hx223_1, hx223_2, hx223_3, hx223_4, hx223_5, HC223_2, HR223_2, HC223_5, HR223_5, p223, q223⟩ := q0p HB.out HSzL_0 a1 (by first | with_reducible assumption | assumption) (by first | with_reducible assumption | assumption); cases e223))
  go_ret
  exact ⟨by first | rfl | (simp [q02, q01] <;> rfl) | (simp [*, q02, q01] <;> rfl), by repeat (first | (with_reducible first | exact HI0.out | apply q04.alloc | apply q04.drewN | apply q04.drew | apply q04.set_1) | exact HI0.out), by repeat (first | (with_reducible first | exact HB.out | apply bA | apply bN | apply bD | refine bS ?_ (q04.ge HI0.out)) | exact HB.out), by repeat (first | (with_reducible first | exact HK.out | apply q07.set_ | apply q0a | apply q0h | apply q0b) | exact HK.out)⟩
 case n4 =>
  have H' := aS H
  clear H
  go_enter Tryd.func116, Tryd.ntmps116
  go_wp2_with (first | ((with_reducible refine q06 (f := 119) rfl ?_); refine q0k (some 8) rfl rfl Tryd.func119 (by kernel_rfl) rfl #[.pointer (some ⟨g, 0, none⟩), .int .i64 a1, .int .i64 (-1)] rfl (by (try simp only [List.map_toArray, List.map_cons, List.map_nil]); first | done | rfl | (simp only [List.length_drop, List.length_take]; rfl)) ?_; (with_reducible refine (walk_walker_beside.calls k g s0_0 s0_1 a1 (-1) t221 t222 w0 _ ?side1 ?side2 A3.out).mono ?_); (case side1 => repeat (first | (with_reducible first | exact HI0.out | apply q04.alloc | apply q04.drewN | apply q04.drew | apply q04.set_1) | exact HI0.out)); (case side2 => repeat (first | (with_reducible first | exact HB.out | apply bA | apply bN | apply bD | refine bS ?_ (q04.ge HI0.out)) | exact HB.out)); rintro e w9 ⟨rfl, hi, hb, hk⟩; refine ⟨_, rfl, ?_⟩; replace HK := aS (q07.trans (by repeat (first | (with_reducible first | exact HK.out | apply q07.set_ | apply q0a | apply q0h | apply q0b) | exact HK.out)) hk (.inl rfl)); replace HI0 := aS (hi); replace HB := aS (hb); (try clear hb); (try clear hb2); (try clear hk); (try clear hi)))
  go_loopg [5] k (fun kq v5 w' => ∃ (x5_1 : Int) (x1001_1 : Bool), v5 = .int .i64 x5_1 ∧ Aside0 (walk_walker_last.l0 kq x5_1 s0_0 x1001_1 = some (r1, r2)) ∧ Aside0 (kq ≤ k) ∧ Aside0 (q04 w0 w' g s0_0 x1001_1) ∧ Aside0 (q07 w w' g none) ∧ Aside0 (Below w0.heap.size w0 w'))
  case atStart => exact ⟨(t221), (t222), (by first | rfl | (simp; done) | simp [*]), H', ⟨Nat.le_refl _⟩, ⟨by repeat (first | (with_reducible first | exact HI0.out | apply q04.alloc | apply q04.drewN | apply q04.drew | apply q04.set_1) | exact HI0.out)⟩, ⟨by repeat (first | (with_reducible first | exact HK.out | apply q07.set_ | apply q0a | apply q0h | apply q0b) | exact HK.out)⟩, ⟨by repeat (first | (with_reducible first | exact HB.out | apply bA | apply bN | apply bD | refine bS ?_ (q04.ge HI0.out)) | exact HB.out)⟩⟩
  case round =>
   clear H'
   obtain ⟨x5_1, x1001_1, rfl, HA, HK1, HI0, HK, HB⟩ := hrel
   cases gk with
   | zero => exact absurd HA.out (by simp [walk_walker_last.l0])
   | succ k1 =>
    have H := HA.out
    clear HA
    simp only [walk_walker_last.l0] at H
    replace H := iB H
    obtain ⟨⟨t224, t225⟩, A10, H⟩ := H
    try dsimp only at H
    refine iL H ?p11 ?n11 <;> clear H
    case' p11 => intro c11b0 H
    case' n11 => intro c11b0 H
    case p11 =>
     replace H := iB H
     obtain ⟨⟨t226, t227⟩, A12, H⟩ := H
     try dsimp only at H
     have H' := aS H
     clear H
     go_wp2_with (first | ((with_reducible refine q06 (f := 118) rfl ?_); refine q0k (some 22) rfl rfl Tryd.func118 (by kernel_rfl) rfl #[.pointer (some ⟨g, 0, none⟩), .int .i64 x5_1, .bool true] rfl (by (try simp only [List.map_toArray, List.map_cons, List.map_nil]); first | done | rfl | (simp only [List.length_drop, List.length_take]; rfl)) ?_; (with_reducible refine (walk_walker_kid.calls g s0_0 x1001_1 x5_1 true t224 t225 w0 _ ?side1 ?side2 A10.out).mono ?_); (case side1 => repeat (first | (with_reducible first | exact HI0.out | apply q04.alloc | apply q04.drewN | apply q04.drew | apply q04.set_1) | exact HI0.out)); (case side2 => repeat (first | (with_reducible first | exact HB.out | apply bA | apply bN | apply bD | refine bS ?_ (q04.ge HI0.out)) | exact HB.out)); rintro e w13 ⟨rfl, hi, hb, hk⟩; refine ⟨_, rfl, ?_⟩; replace HK := aS (q07.trans (by repeat (first | (with_reducible first | exact HK.out | apply q07.set_ | apply q0a | apply q0h | apply q0b) | exact HK.out)) hk (.inl rfl)); replace HI0 := aS (hi); replace HB := aS (hb); (try clear hb); (try clear hb2); (try clear hk); (try clear hi)) | ((with_reducible refine q06 (f := 118) rfl ?_); refine q0k (some 26) rfl rfl Tryd.func118 (by kernel_rfl) rfl #[.pointer (some ⟨g, 0, none⟩), .int .i64 x5_1, .bool true] rfl (by (try simp only [List.map_toArray, List.map_cons, List.map_nil]); first | done | rfl | (simp only [List.length_drop, List.length_take]; rfl)) ?_; (with_reducible refine (walk_walker_kid.calls g s0_0 t225 x5_1 true t226 t227 w0 _ ?side1 ?side2 A12.out).mono ?_); (case side1 => repeat (first | (with_reducible first | exact HI0.out | apply q04.alloc | apply q04.drewN | apply q04.drew | apply q04.set_1) | exact HI0.out)); (case side2 => repeat (first | (with_reducible first | exact HB.out | apply bA | apply bN | apply bD | refine bS ?_ (q04.ge HI0.out)) | exact HB.out)); rintro e w14 ⟨rfl, hi, hb, hk⟩; refine ⟨_, rfl, ?_⟩; replace HK := aS (q07.trans (by repeat (first | (with_reducible first | exact HK.out | apply q07.set_ | apply q0a | apply q0h | apply q0b) | exact HK.out)) hk (.inl rfl)); replace HI0 := aS (hi); replace HB := aS (hb); (try clear hb); (try clear hb2); (try clear hk); (try clear hi)))
     go_roundg k1
     case measure => have := HK1.out; omega
     case rel => exact ⟨(t226), (t227), (by first | rfl | (simp; done) | simp [*]), H', ⟨by have := HK1.out; omega⟩, ⟨by repeat (first | (with_reducible first | exact HI0.out | apply q04.alloc | apply q04.drewN | apply q04.drew | apply q04.set_1) | exact HI0.out)⟩, ⟨by repeat (first | (with_reducible first | exact HK.out | apply q07.set_ | apply q0a | apply q0h | apply q0b) | exact HK.out)⟩, ⟨by repeat (first | (with_reducible first | exact HB.out | apply bA | apply bN | apply bD | refine bS ?_ (q04.ge HI0.out)) | exact HB.out)⟩⟩
    case n11 =>
     simp only [Option.some.injEq, Prod.mk.injEq] at H
     obtain ⟨rfl, rfl⟩ := H
     go_wp2_with (first | ((with_reducible refine q06 (f := 118) rfl ?_); refine q0k (some 22) rfl rfl Tryd.func118 (by kernel_rfl) rfl #[.pointer (some ⟨g, 0, none⟩), .int .i64 x5_1, .bool true] rfl (by (try simp only [List.map_toArray, List.map_cons, List.map_nil]); first | done | rfl | (simp only [List.length_drop, List.length_take]; rfl)) ?_; (with_reducible refine (walk_walker_kid.calls g s0_0 x1001_1 x5_1 true t224 t225 w0 _ ?side1 ?side2 A10.out).mono ?_); (case side1 => repeat (first | (with_reducible first | exact HI0.out | apply q04.alloc | apply q04.drewN | apply q04.drew | apply q04.set_1) | exact HI0.out)); (case side2 => repeat (first | (with_reducible first | exact HB.out | apply bA | apply bN | apply bD | refine bS ?_ (q04.ge HI0.out)) | exact HB.out)); rintro e w15 ⟨rfl, hi, hb, hk⟩; refine ⟨_, rfl, ?_⟩; replace HK := aS (q07.trans (by repeat (first | (with_reducible first | exact HK.out | apply q07.set_ | apply q0a | apply q0h | apply q0b) | exact HK.out)) hk (.inl rfl)); replace HI0 := aS (hi); replace HB := aS (hb); (try clear hb); (try clear hb2); (try clear hk); (try clear hi)))
     go_ret
     exact ⟨by first | rfl | (simp [q02, q01] <;> rfl) | (simp [*, q02, q01] <;> rfl), by repeat (first | (with_reducible first | exact HI0.out | apply q04.alloc | apply q04.drewN | apply q04.drew | apply q04.set_1) | exact HI0.out), by repeat (first | (with_reducible first | exact HB.out | apply bA | apply bN | apply bD | refine bS ?_ (q04.ge HI0.out)) | exact HB.out), by repeat (first | (with_reducible first | exact HK.out | apply q07.set_ | apply q0a | apply q0h | apply q0b) | exact HK.out)⟩
end Go.Proofs.YthjnallbbhnndaaDoor.XWp
namespace Go.Proofs.YthjnallbbhnndaaDoor.XWp
open Go.Proofs.YthjnallbbhnndaaDoor.Short Go.RowKit Go.Proofs.YthjnallbbhnndaaDoorW.PrintWords Go.Proofs.YthjnallbbhnndaaDoorW.PrintLast Go.Proofs.YthjnallbbhnndaaDoorW.PrintMore
attribute [local go_sem] q15 q13 q1i q1h q0x q0w q14 q12   -- for this text's walks alone
set_option linter.unusedVariables false
set_option linter.unusedSimpArgs false
def walk_walker_step.j0 : Nat → Int → Int → Int → Bool → List (S43) → Bool → Option (Int × Bool)
 | 0, _, _, _, _, _, _ => none
 | k + 1, x1, x2, x7, x23, x1000, x1001 => if x23 = true then ((walk_walker_kid.f x1000 x1001 x1 (x2 == 5)).bind fun bt234 => (some (bt234.1, bt234.2))) else (if x7 = 6 then ((walk_walker_beside.f k x1000 x1001 x1 1).bind fun bt236 => (some (bt236.1, bt236.2))) else (if x7 = 7 then ((walk_walker_beside.f k x1000 x1001 x1 (-1)).bind fun bt238 => (some (bt238.1, bt238.2))) else (if 0 ≤ x1 then (if x1 < (x1000.length : Int) then (some ((q00 x1000 x1).f4, x1001)) else (none)) else (none))))
def walk_walker_step.f (k : Nat) (s0_0 : List (S43)) (s0_1 : Bool) (a1 : Int) (a2 : Int) : Option (Int × Bool) := if a2 = 1 then ((walk_walker_next.f k s0_0 s0_1 a1).bind fun bt228 => (some (bt228.1, bt228.2))) else (if a2 = 2 then ((walk_walker_last.f k s0_0 s0_1 a1).bind fun bt230 => (some (bt230.1, bt230.2))) else (if a2 = 3 then ((walk_walker_over.f k s0_0 s0_1 a1).bind fun bt232 => (some (bt232.1, bt232.2))) else (if a2 = 4 then (walk_walker_step.j0 k a1 a2 a2 (a2 == 4) s0_0 s0_1) else (walk_walker_step.j0 k a1 a2 a2 (a2 == 5) s0_0 s0_1))))
theorem walk_walker_step.mono_l : ∀ k, (∀ y0 y1 y2 y3 y4 y5, LeO (walk_walker_step.j0 k y0 y1 y2 y3 y4 y5) (walk_walker_step.j0 (k + 1) y0 y1 y2 y3 y4 y5))
 | 0 => fun _ _ _ _ _ _ r h => by simp [walk_walker_step.j0] at h
 | k + 1 => by
  have ih0 := walk_walker_step.mono_l k
  ·intro y0 y1 y2 y3 y4 y5
   unfold walk_walker_step.j0
   repeat' first | with_reducible first | apply ih0 | apply walk_walker_beside.mono | apply walk_walker_last.mono | apply walk_walker_next.mono | apply walk_walker_over.mono | exact LeO.refl _ | exact LeO.none _ | refine LeO.ite ?_ ?_ | refine LeO.bind ?_ (fun _ => ?_) | (first | apply ih0 | apply walk_walker_beside.mono | apply walk_walker_last.mono | apply walk_walker_next.mono | apply walk_walker_over.mono | exact LeO.none _ | refine LeO.ite ?_ ?_ | refine LeO.bind ?_ (fun _ => ?_))
theorem walk_walker_step.mono : ∀ a0 a1 a2 a3 k, LeO (walk_walker_step.f k a0 a1 a2 a3) (walk_walker_step.f (k + 1) a0 a1 a2 a3) := by
 intro a0 a1 a2 a3 k
 have ih0 := walk_walker_step.mono_l k
 unfold walk_walker_step.f
 repeat' first | with_reducible first | apply ih0 | apply walk_walker_beside.mono | apply walk_walker_last.mono | apply walk_walker_next.mono | apply walk_walker_over.mono | exact LeO.refl _ | exact LeO.none _ | refine LeO.ite ?_ ?_ | refine LeO.bind ?_ (fun _ => ?_) | (first | apply ih0 | apply walk_walker_beside.mono | apply walk_walker_last.mono | apply walk_walker_next.mono | apply walk_walker_over.mono | exact LeO.none _ | refine LeO.ite ?_ ?_ | refine LeO.bind ?_ (fun _ => ?_))
set_option maxHeartbeats 8000000 in
set_option maxRecDepth 100000 in
theorem walk_walker_step.calls (k : Nat) (g : Nat) (s0_0 : List (S43)) (s0_1 : Bool) (a1 : Int) (a2 : Int) (r1 : Int) (r2 : Bool) (w0 w : World) (hI : q04 w0 w g s0_0 s0_1) (hB : Below w0.heap.size w0 w) (h : walk_walker_step.f k s0_0 s0_1 a1 a2 = some (r1, r2)) :
 Calls Tryd.prog 71 #[.pointer (some ⟨g, 0, none⟩), .int .i64 a1, .int .i64 a2] w fun e w' => e = .returned (.int .i64 r1) ∧ q04 w0 w' g s0_0 r2 ∧ Below w0.heap.size w0 w' ∧ q07 w w' g none := by
 have HI0 := aS hI
 have HK := aS (q07.refl w g none)
 have HL := aS hB.size
 clear hI
 have HW0 := aS hB.size
 have HB := aS hB
 clear hB
 have H := h; clear h; unfold walk_walker_step.f at H
 refine iE H ?p4 ?n4 <;> clear H
 case' p4 => intro c4b0 c4b1 H
 case' n4 => intro c4 c4b0 c4b1 H; refine iE H ?p7 ?n7 <;> clear H
 case' p7 => intro c7b0 c7b1 H
 case' n7 => intro c7 c7b0 c7b1 H; refine iE H ?p10 ?n10 <;> clear H
 case' p10 => intro c10b0 c10b1 H
 case' n10 => intro c10 c10b0 c10b1 H
 case p4 =>
  replace H := iB H
  obtain ⟨⟨t228, t229⟩, A5, H⟩ := H
  try dsimp only at H
  simp only [Option.some.injEq, Prod.mk.injEq] at H
  obtain ⟨rfl, rfl⟩ := H
  go_enter Tryd.func71, Tryd.ntmps71
  go_wp2_with (first | ((with_reducible refine q06 (f := 115) rfl ?_); refine q0k (some 12) rfl rfl Tryd.func115 (by kernel_rfl) rfl #[.pointer (some ⟨g, 0, none⟩), .int .i64 a1] rfl (by (try simp only [List.map_toArray, List.map_cons, List.map_nil]); first | done | rfl | (simp only [List.length_drop, List.length_take]; rfl)) ?_; (with_reducible refine (walk_walker_next.calls k g s0_0 s0_1 a1 t228 t229 w0 _ ?side1 ?side2 A5.out).mono ?_); (case side1 => repeat (first | (with_reducible first | exact HI0.out | apply q04.alloc | apply q04.drewN | apply q04.drew | apply q04.set_1) | exact HI0.out)); (case side2 => repeat (first | (with_reducible first | exact HB.out | apply bA | apply bN | apply bD | refine bS ?_ (q04.ge HI0.out)) | exact HB.out)); rintro e w6 ⟨rfl, hi, hb, hk⟩; refine ⟨_, rfl, ?_⟩; replace HK := aS (q07.trans (by repeat (first | (with_reducible first | exact HK.out | apply q07.set_ | apply q0a | apply q0h | apply q0b) | exact HK.out)) hk (.inl rfl)); replace HI0 := aS (hi); replace HB := aS (hb); (try clear hb); (try clear hb2); (try clear hk); (try clear hi)))
  go_ret
  exact ⟨by first | rfl | (simp [q02, q01] <;> rfl) | (simp [*, q02, q01] <;> rfl), by repeat (first | (with_reducible first | exact HI0.out | apply q04.alloc | apply q04.drewN | apply q04.drew | apply q04.set_1) | exact HI0.out), by repeat (first | (with_reducible first | exact HB.out | apply bA | apply bN | apply bD | refine bS ?_ (q04.ge HI0.out)) | exact HB.out), by repeat (first | (with_reducible first | exact HK.out | apply q07.set_ | apply q0a | apply q0h | apply q0b) | exact HK.out)⟩
 case p7 =>
  replace H := iB H
  obtain ⟨⟨t230, t231⟩, A8, H⟩ := H
  try dsimp only at H
  simp only [Option.some.injEq, Prod.mk.injEq] at H
  obtain ⟨rfl, rfl⟩ := H
  go_enter Tryd.func71, Tryd.ntmps71
  go_wp2_with (first | ((with_reducible refine q06 (f := 116) rfl ?_); refine q0k (some 17) rfl rfl Tryd.func116 (by kernel_rfl) rfl #[.pointer (some ⟨g, 0, none⟩), .int .i64 a1] rfl (by (try simp only [List.map_toArray, List.map_cons, List.map_nil]); first | done | rfl | (simp only [List.length_drop, List.length_take]; rfl)) ?_; (with_reducible refine (walk_walker_last.calls k g s0_0 s0_1 a1 t230 t231 w0 _ ?side1 ?side2 A8.out).mono ?_); (case side1 => repeat (first | (with_reducible first | exact HI0.out | apply q04.alloc | apply q04.drewN | apply q04.drew | apply q04.set_1) | exact HI0.out)); (case side2 => repeat (first | (with_reducible first | exact HB.out | apply bA | apply bN | apply bD | refine bS ?_ (q04.ge HI0.out)) | exact HB.out)); rintro e w9 ⟨rfl, hi, hb, hk⟩; refine ⟨_, rfl, ?_⟩; replace HK := aS (q07.trans (by repeat (first | (with_reducible first | exact HK.out | apply q07.set_ | apply q0a | apply q0h | apply q0b) | exact HK.out)) hk (.inl rfl)); replace HI0 := aS (hi); replace HB := aS (hb); (try clear hb); (try clear hb2); (try clear hk); (try clear hi)))
  go_ret
  exact ⟨by first | rfl | (simp [q02, q01] <;> rfl) | (simp [*, q02, q01] <;> rfl), by repeat (first | (with_reducible first | exact HI0.out | apply q04.alloc | apply q04.drewN | apply q04.drew | apply q04.set_1) | exact HI0.out), by repeat (first | (with_reducible first | exact HB.out | apply bA | apply bN | apply bD | refine bS ?_ (q04.ge HI0.out)) | exact HB.out), by repeat (first | (with_reducible first | exact HK.out | apply q07.set_ | apply q0a | apply q0h | apply q0b) | exact HK.out)⟩
 case p10 =>
  replace H := iB H
  obtain ⟨⟨t232, t233⟩, A11, H⟩ := H
  try dsimp only at H
  simp only [Option.some.injEq, Prod.mk.injEq] at H
  obtain ⟨rfl, rfl⟩ := H
  go_enter Tryd.func71, Tryd.ntmps71
  go_wp2_with (first | ((with_reducible refine q06 (f := 117) rfl ?_); refine q0k (some 22) rfl rfl Tryd.func117 (by kernel_rfl) rfl #[.pointer (some ⟨g, 0, none⟩), .int .i64 a1] rfl (by (try simp only [List.map_toArray, List.map_cons, List.map_nil]); first | done | rfl | (simp only [List.length_drop, List.length_take]; rfl)) ?_; (with_reducible refine (walk_walker_over.calls k g s0_0 s0_1 a1 t232 t233 w0 _ ?side1 ?side2 A11.out).mono ?_); (case side1 => repeat (first | (with_reducible first | exact HI0.out | apply q04.alloc | apply q04.drewN | apply q04.drew | apply q04.set_1) | exact HI0.out)); (case side2 => repeat (first | (with_reducible first | exact HB.out | apply bA | apply bN | apply bD | refine bS ?_ (q04.ge HI0.out)) | exact HB.out)); rintro e w12 ⟨rfl, hi, hb, hk⟩; refine ⟨_, rfl, ?_⟩; replace HK := aS (q07.trans (by repeat (first | (with_reducible first | exact HK.out | apply q07.set_ | apply q0a | apply q0h | apply q0b) | exact HK.out)) hk (.inl rfl)); replace HI0 := aS (hi); replace HB := aS (hb); (try clear hb); (try clear hb2); (try clear hk); (try clear hi)))
  go_ret
  exact ⟨by first | rfl | (simp [q02, q01] <;> rfl) | (simp [*, q02, q01] <;> rfl), by repeat (first | (with_reducible first | exact HI0.out | apply q04.alloc | apply q04.drewN | apply q04.drew | apply q04.set_1) | exact HI0.out), by repeat (first | (with_reducible first | exact HB.out | apply bA | apply bN | apply bD | refine bS ?_ (q04.ge HI0.out)) | exact HB.out), by repeat (first | (with_reducible first | exact HK.out | apply q07.set_ | apply q0a | apply q0h | apply q0b) | exact HK.out)⟩
 case n10 =>
  have HC13 := aS H
  clear H
  go_enter Tryd.func71, Tryd.ntmps71
  go_upto_if 23 with (fail)
  go_cut [23] (fun v23 wc => ∃ (kq : Nat) (x23_12 : Bool), v23 = .bool x23_12 ∧ Aside0 (walk_walker_step.j0 kq a1 a2 a2 x23_12 s0_0 s0_1 = some (r1, r2)) ∧ Aside0 (kq ≤ k) ∧ Aside0 (q04 w0 wc g s0_0 s0_1) ∧ Aside0 (q07 w wc g none) ∧ Aside0 (Below w0.heap.size w0 wc))
  case first =>
   have H := HC13.out
   clear HC13
   refine iE H ?p14 ?n14 <;> clear H
   case' p14 => intro c14b0 c14b1 H
   case' n14 => intro c14 c14b0 c14b1 H
   case p14|n14 =>
    (first | rw [c14b0] | (simp only [q0d, q0e]; rw [c14b0]) | skip)
    have H' := aS H
    clear H
    go_wp2
    go_meet
    case rel => exact ⟨_, _, (by first | rfl | (simp; done) | simp [*]), H', ⟨by first | omega | exact Nat.le_refl _⟩, ⟨by repeat (first | (with_reducible first | exact HI0.out | apply q04.alloc | apply q04.drewN | apply q04.drew | apply q04.set_1) | exact HI0.out)⟩, ⟨by repeat (first | (with_reducible first | exact HK.out | apply q07.set_ | apply q0a | apply q0h | apply q0b) | exact HK.out)⟩, ⟨by repeat (first | (with_reducible first | exact HB.out | apply bA | apply bN | apply bD | refine bS ?_ (q04.ge HI0.out)) | exact HB.out)⟩⟩
  case rest =>
   clear HC13
   obtain ⟨kq, x23_12, rfl, HA, HJ12, HI0, HK, HB⟩ := hcut
   cases kq with
   | zero => exact absurd HA.out (by simp [walk_walker_step.j0])
   | succ kj12 =>
    have H := HA.out
    clear HA
    simp only [walk_walker_step.j0] at H
    refine iV H ?p15 ?n15 <;> clear H
    case' p15 => intro c15 H; subst c15
    case' n15 => intro c15 H; subst c15; refine iE H ?p18 ?n18 <;> clear H
    case' p18 => intro c18b0 c18b1 H
    case' n18 => intro c18 c18b0 c18b1 H; refine iE H ?p21 ?n21 <;> clear H
    case' p21 => intro c21b0 c21b1 H
    case' n21 => intro c21 c21b0 c21b1 H; obtain ⟨ASzL_0, cSzL_0, HGzL, hgzL, HSzL_0⟩ := HI0.out; have hczL_0 := q1y HGzL; have hczL_1 := q1x HGzL; have hfzL_1 := q0j HGzL 1; clear HGzL hgzL; refine iLp H ?_; clear H; intro c24b0 H; refine iTp H ?_; clear H; intro c25b0 H
    case p15 =>
     replace H := iB H
     obtain ⟨⟨t234, t235⟩, A16, H⟩ := H
     try dsimp only at H
     simp only [Option.some.injEq, Prod.mk.injEq] at H
     obtain ⟨rfl, rfl⟩ := H
     go_wp2_with (first | ((with_reducible refine q06 (f := 118) rfl ?_); refine q0k (some 30) rfl rfl Tryd.func118 (by kernel_rfl) rfl #[.pointer (some ⟨g, 0, none⟩), .int .i64 a1, .bool (a2 == 5)] rfl (by (try simp only [List.map_toArray, List.map_cons, List.map_nil]); first | done | rfl | (simp only [List.length_drop, List.length_take]; rfl)) ?_; (with_reducible refine (walk_walker_kid.calls g s0_0 s0_1 a1 (a2 == 5) t234 t235 w0 _ ?side1 ?side2 A16.out).mono ?_); (case side1 => repeat (first | (with_reducible first | exact HI0.out | apply q04.alloc | apply q04.drewN | apply q04.drew | apply q04.set_1) | exact HI0.out)); (case side2 => repeat (first | (with_reducible first | exact HB.out | apply bA | apply bN | apply bD | refine bS ?_ (q04.ge HI0.out)) | exact HB.out)); rintro e w17 ⟨rfl, hi, hb, hk⟩; refine ⟨_, rfl, ?_⟩; replace HK := aS (q07.trans (by repeat (first | (with_reducible first | exact HK.out | apply q07.set_ | apply q0a | apply q0h | apply q0b) | exact HK.out)) hk (.inl rfl)); replace HI0 := aS (hi); replace HB := aS (hb); (try clear hb); (try clear hb2); (try clear hk); (try clear hi)))
     go_ret
     exact ⟨by first | rfl | (simp [q02, q01] <;> rfl) | (simp [*, q02, q01] <;> rfl), by repeat (first | (with_reducible first | exact HI0.out | apply q04.alloc | apply q04.drewN | apply q04.drew | apply q04.set_1) | exact HI0.out), by repeat (first | (with_reducible first | exact HB.out | apply bA | apply bN | apply bD | refine bS ?_ (q04.ge HI0.out)) | exact HB.out), by repeat (first | (with_reducible first | exact HK.out | apply q07.set_ | apply q0a | apply q0h | apply q0b) | exact HK.out)⟩
    case p18 =>
     replace H := iB H
     obtain ⟨⟨t236, t237⟩, A19, H⟩ := H
     try dsimp only at H
     simp only [Option.some.injEq, Prod.mk.injEq] at H
     obtain ⟨rfl, rfl⟩ := H
     go_wp2_with (first | ((with_reducible refine q06 (f := 119) rfl ?_); refine q0k (some 35) rfl rfl Tryd.func119 (by kernel_rfl) rfl #[.pointer (some ⟨g, 0, none⟩), .int .i64 a1, .int .i64 1] rfl (by (try simp only [List.map_toArray, List.map_cons, List.map_nil]); first | done | rfl | (simp only [List.length_drop, List.length_take]; rfl)) ?_; (with_reducible refine (walk_walker_beside.calls kj12 g s0_0 s0_1 a1 1 t236 t237 w0 _ ?side1 ?side2 A19.out).mono ?_); (case side1 => repeat (first | (with_reducible first | exact HI0.out | apply q04.alloc | apply q04.drewN | apply q04.drew | apply q04.set_1) | exact HI0.out)); (case side2 => repeat (first | (with_reducible first | exact HB.out | apply bA | apply bN | apply bD | refine bS ?_ (q04.ge HI0.out)) | exact HB.out)); rintro e w20 ⟨rfl, hi, hb, hk⟩; refine ⟨_, rfl, ?_⟩; replace HK := aS (q07.trans (by repeat (first | (with_reducible first | exact HK.out | apply q07.set_ | apply q0a | apply q0h | apply q0b) | exact HK.out)) hk (.inl rfl)); replace HI0 := aS (hi); replace HB := aS (hb); (try clear hb); (try clear hb2); (try clear hk); (try clear hi)))
     go_ret
     exact ⟨by first | rfl | (simp [q02, q01] <;> rfl) | (simp [*, q02, q01] <;> rfl), by repeat (first | (with_reducible first | exact HI0.out | apply q04.alloc | apply q04.drewN | apply q04.drew | apply q04.set_1) | exact HI0.out), by repeat (first | (with_reducible first | exact HB.out | apply bA | apply bN | apply bD | refine bS ?_ (q04.ge HI0.out)) | exact HB.out), by repeat (first | (with_reducible first | exact HK.out | apply q07.set_ | apply q0a | apply q0h | apply q0b) | exact HK.out)⟩
    case p21 =>
     replace H := iB H
     obtain ⟨⟨t238, t239⟩, A22, H⟩ := H
     try dsimp only at H
     simp only [Option.some.injEq, Prod.mk.injEq] at H
     obtain ⟨rfl, rfl⟩ := H
     go_wp2_with (first | ((with_reducible refine q06 (f := 119) rfl ?_); refine q0k (some 40) rfl rfl Tryd.func119 (by kernel_rfl) rfl #[.pointer (some ⟨g, 0, none⟩), .int .i64 a1, .int .i64 (-1)] rfl (by (try simp only [List.map_toArray, List.map_cons, List.map_nil]); first | done | rfl | (simp only [List.length_drop, List.length_take]; rfl)) ?_; (with_reducible refine (walk_walker_beside.calls kj12 g s0_0 s0_1 a1 (-1) t238 t239 w0 _ ?side1 ?side2 A22.out).mono ?_); (case side1 => repeat (first | (with_reducible first | exact HI0.out | apply q04.alloc | apply q04.drewN | apply q04.drew | apply q04.set_1) | exact HI0.out)); (case side2 => repeat (first | (with_reducible first | exact HB.out | apply bA | apply bN | apply bD | refine bS ?_ (q04.ge HI0.out)) | exact HB.out)); rintro e w23 ⟨rfl, hi, hb, hk⟩; refine ⟨_, rfl, ?_⟩; replace HK := aS (q07.trans (by repeat (first | (with_reducible first | exact HK.out | apply q07.set_ | apply q0a | apply q0h | apply q0b) | exact HK.out)) hk (.inl rfl)); replace HI0 := aS (hi); replace HB := aS (hb); (try clear hb); (try clear hb2); (try clear hk); (try clear hi)))
     go_ret
     exact ⟨by first | rfl | (simp [q02, q01] <;> rfl) | (simp [*, q02, q01] <;> rfl), by repeat (first | (with_reducible first | exact HI0.out | apply q04.alloc | apply q04.drewN | apply q04.drew | apply q04.set_1) | exact HI0.out), by repeat (first | (with_reducible first | exact HB.out | apply bA | apply bN | apply bD | refine bS ?_ (q04.ge HI0.out)) | exact HB.out), by repeat (first | (with_reducible first | exact HK.out | apply q07.set_ | apply q0a | apply q0h | apply q0b) | exact HK.out)⟩
    case n21 =>
     simp only [Option.some.injEq, Prod.mk.injEq] at H
     obtain ⟨rfl, rfl⟩ := H
     obtain ⟨ad240, A240_2, c240_2, A240_5, c240_5, e240, hx240_0, hx240_1, hx240_2, hx240_3, hx240_4, hx240_5, HC240_2, HR240_2, HC240_5, HR240_5, p240, q240⟩ := q0p HB.out HSzL_0 a1 (by first | with_reducible assumption | assumption) (by first | with_reducible assumption | assumption)
     cases e240
     go_wp2
     go_ret
     exact ⟨by first | rfl | (simp [q02, q01] <;> rfl) | (simp [*, q02, q01] <;> rfl), by repeat (first | (with_reducible first | exact HI0.out | apply q04.alloc | apply q04.drewN | apply q04.drew | apply q04.set_1) | exact HI0.out), by repeat (first | (with_reducible first | exact HB.out | apply bA | apply bN | apply bD | refine bS ?_ (q04.ge HI0.out)) | exact HB.out), by repeat (first | (with_reducible first | exact HK.out | apply q07.set_ | apply q0a | apply q0h | apply q0b) | exact HK.out)⟩
def walk_Step.f (k : Nat) (l0 : List S43) (a1 : Bool) (n how : Int) : Option (Int × Bool × Int) :=
 (walk_check.f k l0 a1 []).bind fun e => if e = 0 then (if how < 1 ∨ how > 8 then some (0, false, 1) else (walk_check.f k l0 a1 [n]).bind fun e2 => if e2 = 0 then
  ((walk_walker_step.f k l0 a1 n how).bind fun r => some (max r.1 0, decide (r.1 ≥ 0), 0)) else some (0, false, e2)) else some (0, false, e)
set_option maxHeartbeats 8000000 in
set_option maxRecDepth 100000 in
theorem walk_Step.calls (k : Nat) (A0 : Option Addr) (c0 : Nat) (l0 : List S43) (a1 : Bool) (n how : Int) (r1 : Int) (r2 : Bool) (r3 : Int) (w : World) (hr0 : Kd.C k43 w A0 l0.length l0) (hc0 : l0.length ≤ c0) (h : walk_Step.f k l0 a1 n how = some (r1, r2, r3)) :
 Calls Tryd.prog 16 #[.agg #[.slice A0 l0.length c0, .bool a1], .int .i64 n, .int .i64 how] w fun e w' => e = .returned (.tuple #[.int .i64 r1, .bool r2, .int .i64 r3]) ∧ Below w.heap.size w w' := by
 have hu24 := Tryd.underlying24
 unfold walk_Step.f at h
 obtain ⟨e0, he0, h⟩ := Option.bind_eq_some_iff.1 h
 have HE := aS he0
 have HR := aS hr0
 have HC := aS hc0
 have HB := aS (Below.refl w.heap.size w)
 clear he0 hr0 hc0
 by_cases z0 : e0 = 0
 ·subst z0
  rw [if_pos rfl] at h
  by_cases hh : how < 1 ∨ how > 8
  ·rw [if_pos hh] at h
   simp only [Option.some.injEq, Prod.mk.injEq] at h
   obtain ⟨rfl, rfl, rfl⟩ := h
   by_cases h1 : how < 1
   ·have h1b : decide (how < 1) = true := decide_eq_true h1
    clear hh h1
    go_enter Tryd.func16, Tryd.ntmps16
    go_wp2_with (first | ((with_reducible refine q0c (N := 3) rfl ?_); refine q0q ?hg (N := 3) ?hd (cs := #[.slice A0 l0.length c0, .bool a1]) (t := 24) ?hr ?_; (case hd => rfl); (case hg => rfl); (case hr => first | (go_simp; done) | (go_simp; rfl)); intro gb hg wb hbox hb; have n0_ := aS (q03 (by repeat (first | exact HB.out | apply bA | apply bN | apply bD)) hb); have BK := aS hbox; have hcz0 : wb.cell? ⟨gb, 0, none⟩ = some (.slice A0 l0.length c0) := (q05 BK.out 0).trans rfl; have hcz1 : wb.cell? ⟨gb, 1, none⟩ = some (.bool a1) := (q05 BK.out 1).trans rfl; clear HB; have HB := n0_; clear n0_ hg hbox hb) | (go_at_call 70; (with_reducible refine (walk_check.nil0 k A0 c0 l0 a1 _ (Kd.C_below HR.out (by repeat (first | exact HB.out | apply bA | apply bN | apply bD))) HC.out HE.out).mono ?_); rintro e w1 ⟨hb, g1, rfl, hI⟩; have n0_ := aS (q03 (by repeat (first | exact HB.out | apply bA | apply bN | apply bD)) hb); obtain ⟨w0g1, hI, hIB, hIW⟩ : ∃ w0, q04 w0 w1 g1 l0 a1 ∧ Below w0.heap.size w0 w1 ∧ Below w.heap.size w w0 := ⟨_, hI, hb, (by repeat (first | exact HB.out | apply bA | apply bN | apply bD))⟩; clear HB; have HB := n0_; clear n0_; have HI := aS hI; have HIB := aS hIB; have HIW := aS hIW; clear hI hIB hIW; have BKn := aS (walk_check.blk BK.out hb); clear BK; have BK := BKn; clear BKn; clear hcz0 hcz1; have hcz0 : w1.cell? ⟨gb, 0, none⟩ = some (.slice A0 l0.length c0) := (q05 BK.out 0).trans rfl; have hcz1 : w1.cell? ⟨gb, 1, none⟩ = some (.bool a1) := (q05 BK.out 1).trans rfl; clear hb))
    go_ret3
    exact ⟨rfl, (by repeat (first | exact HB.out | apply bA | apply bN | apply bD))⟩
   ·have h1b : decide (how < 1) = false := decide_eq_false h1
    have h2b : decide (8 < how) = true := decide_eq_true (by omega)
    clear hh h1
    go_enter Tryd.func16, Tryd.ntmps16
    go_wp2_with (first | ((with_reducible refine q0c (N := 3) rfl ?_); refine q0q ?hg (N := 3) ?hd (cs := #[.slice A0 l0.length c0, .bool a1]) (t := 24) ?hr ?_; (case hd => rfl); (case hg => rfl); (case hr => first | (go_simp; done) | (go_simp; rfl)); intro gb hg wb hbox hb; have n0_ := aS (q03 (by repeat (first | exact HB.out | apply bA | apply bN | apply bD)) hb); have BK := aS hbox; have hcz0 : wb.cell? ⟨gb, 0, none⟩ = some (.slice A0 l0.length c0) := (q05 BK.out 0).trans rfl; have hcz1 : wb.cell? ⟨gb, 1, none⟩ = some (.bool a1) := (q05 BK.out 1).trans rfl; clear HB; have HB := n0_; clear n0_ hg hbox hb) | (go_at_call 70; (with_reducible refine (walk_check.nil0 k A0 c0 l0 a1 _ (Kd.C_below HR.out (by repeat (first | exact HB.out | apply bA | apply bN | apply bD))) HC.out HE.out).mono ?_); rintro e w1 ⟨hb, g1, rfl, hI⟩; have n0_ := aS (q03 (by repeat (first | exact HB.out | apply bA | apply bN | apply bD)) hb); obtain ⟨w0g1, hI, hIB, hIW⟩ : ∃ w0, q04 w0 w1 g1 l0 a1 ∧ Below w0.heap.size w0 w1 ∧ Below w.heap.size w w0 := ⟨_, hI, hb, (by repeat (first | exact HB.out | apply bA | apply bN | apply bD))⟩; clear HB; have HB := n0_; clear n0_; have HI := aS hI; have HIB := aS hIB; have HIW := aS hIW; clear hI hIB hIW; have BKn := aS (walk_check.blk BK.out hb); clear BK; have BK := BKn; clear BKn; clear hcz0 hcz1; have hcz0 : w1.cell? ⟨gb, 0, none⟩ = some (.slice A0 l0.length c0) := (q05 BK.out 0).trans rfl; have hcz1 : w1.cell? ⟨gb, 1, none⟩ = some (.bool a1) := (q05 BK.out 1).trans rfl; clear hb))
    go_ret3
    exact ⟨rfl, (by repeat (first | exact HB.out | apply bA | apply bN | apply bD))⟩
  ·rw [if_neg hh] at h
   have h1b : decide (how < 1) = false := decide_eq_false (by omega)
   have h2b : decide (8 < how) = false := decide_eq_false (by omega)
   obtain ⟨e2, he2, h⟩ := Option.bind_eq_some_iff.1 h
   obtain ⟨ly, hly⟩ : ∃ ly : List Int, ly = [n] := ⟨_, rfl⟩
   rw [← hly] at he2
   have HLL : Aside0 (ly.length ≤ 4611686018427387904) := ⟨by rw [hly]; simp⟩
   have HLY := aS hly
   have HE2 := aS he2
   clear hh he2 hly
   by_cases z2 : e2 = 0
   ·subst z2
    rw [if_pos rfl] at h
    obtain ⟨⟨s1, s2⟩, hs, h⟩ := Option.bind_eq_some_iff.1 h
    have HS := aS hs
    simp only [Option.some.injEq, Prod.mk.injEq] at h
    obtain ⟨rfl, rfl, rfl⟩ := h
    clear hs
    by_cases z3 : s1 < 0
    ·have z3b : decide (0 ≤ s1) = false := decide_eq_false (by omega)
     have z3c : decide (s1 ≥ 0) = false := decide_eq_false (by omega)
     have z3m := aS (show max s1 0 = 0 by omega)
     rw [z3c]
     go_enter Tryd.func16, Tryd.ntmps16
     go_wp2_with (first | ((with_reducible refine q0c (N := 3) rfl ?_); refine q0q ?hg (N := 3) ?hd (cs := #[.slice A0 l0.length c0, .bool a1]) (t := 24) ?hr ?_; (case hd => rfl); (case hg => rfl); (case hr => first | (go_simp; done) | (go_simp; rfl)); intro gb hg wb hbox hb; have n0_ := aS (q03 (by repeat (first | exact HB.out | apply bA | apply bN | apply bD)) hb); have BK := aS hbox; have hcz0 : wb.cell? ⟨gb, 0, none⟩ = some (.slice A0 l0.length c0) := (q05 BK.out 0).trans rfl; have hcz1 : wb.cell? ⟨gb, 1, none⟩ = some (.bool a1) := (q05 BK.out 1).trans rfl; clear HB; have HB := n0_; clear n0_ hg hbox hb) | (go_at_call 70; (with_reducible refine (walk_check.nil0 k A0 c0 l0 a1 _ (Kd.C_below HR.out (by repeat (first | exact HB.out | apply bA | apply bN | apply bD))) HC.out HE.out).mono ?_); rintro e w1 ⟨hb, g1, rfl, hI⟩; have n0_ := aS (q03 (by repeat (first | exact HB.out | apply bA | apply bN | apply bD)) hb); obtain ⟨w0g1, hI, hIB, hIW⟩ : ∃ w0, q04 w0 w1 g1 l0 a1 ∧ Below w0.heap.size w0 w1 ∧ Below w.heap.size w w0 := ⟨_, hI, hb, (by repeat (first | exact HB.out | apply bA | apply bN | apply bD))⟩; clear HB; have HB := n0_; clear n0_; have HI := aS hI; have HIB := aS hIB; have HIW := aS hIW; clear hI hIB hIW; have BKn := aS (walk_check.blk BK.out hb); clear BK; have BK := BKn; clear BKn; clear hcz0 hcz1; have hcz0 : w1.cell? ⟨gb, 0, none⟩ = some (.slice A0 l0.length c0) := (q05 BK.out 0).trans rfl; have hcz1 : w1.cell? ⟨gb, 1, none⟩ = some (.bool a1) := (q05 BK.out 1).trans rfl; clear hb) | ((with_reducible refine q0c (N := 32) rfl ?_); refine Kd.R_lit (Kd.int .i64) _ 3 ?hg (N := 32) ?hd (xs := ([n] : List Int)) (inner := [.int .i64 n]) (ok := fun _ => True) (okp := fun _ => True) ?hr ?hp (fun _ hk => hk) trivial (Below.refl _ _) (Nat.le_refl _) (by simp) ?_; (case hd => rfl); (case hg => rfl); (case hr => first | (go_simp; done) | (go_simp; rfl)); (case hp => exact (Reps.one (show Kd.M (Kd.int .i64) _ _ _ n [.int .i64 n] from rfl) (Reps.none _ _))); intro vl wl hol hb hg_ hnew_; clear hg_ hnew_; (first | rw [← HLY.out] at hol | (simp only [Int.reduceToNat] at hol; rw [← HLY.out] at hol)); obtain ⟨Al, cl, el⟩ := Kd.R_slice hol; subst el; have n0_ := aS (q03 (by repeat (first | exact HB.out | apply bA | apply bN | apply bD)) hb); clear HB; have HB := n0_; clear n0_; have HRl := aS (Kd.R_reads' hol).2.2; have HCl := aS (Kd.R_reads' hol).2.1; clear hol; have BKn := aS (walk_check.blk BK.out hb); clear BK; have BK := BKn; clear BKn; clear hcz0 hcz1; have hcz0 : wl.cell? ⟨gb, 0, none⟩ = some (.slice A0 l0.length c0) := (q05 BK.out 0).trans rfl; have hcz1 : wl.cell? ⟨gb, 1, none⟩ = some (.bool a1) := (q05 BK.out 1).trans rfl; clear hb) | (go_at_call 70; (with_reducible refine (walk_check.calls0 k A0 c0 l0 a1 Al cl ly _ (Kd.C_below HR.out (by repeat (first | exact HB.out | apply bA | apply bN | apply bD))) HC.out (by repeat (first | (with_reducible exact HRl.out) | (with_reducible refine Kd.C_drewN ?_ _) | (with_reducible refine Kd.C_drew ?_) | (with_reducible refine Kd.C_alloc ?_ _))) HCl.out HLL.out HE2.out).mono ?_); rintro e w2 ⟨hb, g2, rfl, hI⟩; have n0_ := aS (q03 (by repeat (first | exact HB.out | apply bA | apply bN | apply bD)) hb); obtain ⟨w0g2, hI, hIB, hIW⟩ : ∃ w0, q04 w0 w2 g2 l0 a1 ∧ Below w0.heap.size w0 w2 ∧ Below w.heap.size w w0 := ⟨_, hI, hb, (by repeat (first | exact HB.out | apply bA | apply bN | apply bD))⟩; clear HB; have HB := n0_; clear n0_; have HI := aS hI; have HIB := aS hIB; have HIW := aS hIW; clear hI hIB hIW; have BKn := aS (walk_check.blk BK.out hb); clear BK; have BK := BKn; clear BKn; clear hcz0 hcz1; have hcz0 : w2.cell? ⟨gb, 0, none⟩ = some (.slice A0 l0.length c0) := (q05 BK.out 0).trans rfl; have hcz1 : w2.cell? ⟨gb, 1, none⟩ = some (.bool a1) := (q05 BK.out 1).trans rfl; clear hb) | (go_at_call 71; (with_reducible refine (walk_walker_step.calls k g2 l0 a1 n how s1 s2 w0g2 _ (by repeat (first | (with_reducible exact HI.out) | (with_reducible apply q04.alloc) | (with_reducible apply q04.drewN) | (with_reducible apply q04.drew))) (by repeat (first | exact HIB.out | apply bA | apply bN | apply bD)) HS.out).mono ?_); rintro e w9 ⟨rfl, hI9, hb9, hk9⟩; have n0_ := aS (q03 HIW.out hb9); clear HB HI; have HB := n0_; clear n0_ hI9 hb9 hk9))
     go_ret3
     exact ⟨(by first | rfl | (rw [z3m.out]; rfl)), (by repeat (first | exact HB.out | apply bA | apply bN | apply bD))⟩
    ·have z3b : decide (0 ≤ s1) = true := decide_eq_true (by omega)
     have z3c : decide (s1 ≥ 0) = true := decide_eq_true (by omega)
     have z3m := aS (show max s1 0 = s1 by omega)
     rw [z3c]
     go_enter Tryd.func16, Tryd.ntmps16
     go_wp2_with (first | ((with_reducible refine q0c (N := 3) rfl ?_); refine q0q ?hg (N := 3) ?hd (cs := #[.slice A0 l0.length c0, .bool a1]) (t := 24) ?hr ?_; (case hd => rfl); (case hg => rfl); (case hr => first | (go_simp; done) | (go_simp; rfl)); intro gb hg wb hbox hb; have n0_ := aS (q03 (by repeat (first | exact HB.out | apply bA | apply bN | apply bD)) hb); have BK := aS hbox; have hcz0 : wb.cell? ⟨gb, 0, none⟩ = some (.slice A0 l0.length c0) := (q05 BK.out 0).trans rfl; have hcz1 : wb.cell? ⟨gb, 1, none⟩ = some (.bool a1) := (q05 BK.out 1).trans rfl; clear HB; have HB := n0_; clear n0_ hg hbox hb) | (go_at_call 70; (with_reducible refine (walk_check.nil0 k A0 c0 l0 a1 _ (Kd.C_below HR.out (by repeat (first | exact HB.out | apply bA | apply bN | apply bD))) HC.out HE.out).mono ?_); rintro e w1 ⟨hb, g1, rfl, hI⟩; have n0_ := aS (q03 (by repeat (first | exact HB.out | apply bA | apply bN | apply bD)) hb); obtain ⟨w0g1, hI, hIB, hIW⟩ : ∃ w0, q04 w0 w1 g1 l0 a1 ∧ Below w0.heap.size w0 w1 ∧ Below w.heap.size w w0 := ⟨_, hI, hb, (by repeat (first | exact HB.out | apply bA | apply bN | apply bD))⟩; clear HB; have HB := n0_; clear n0_; have HI := aS hI; have HIB := aS hIB; have HIW := aS hIW; clear hI hIB hIW; have BKn := aS (walk_check.blk BK.out hb); clear BK; have BK := BKn; clear BKn; clear hcz0 hcz1; have hcz0 : w1.cell? ⟨gb, 0, none⟩ = some (.slice A0 l0.length c0) := (q05 BK.out 0).trans rfl; have hcz1 : w1.cell? ⟨gb, 1, none⟩ = some (.bool a1) := (q05 BK.out 1).trans rfl; clear hb) | ((with_reducible refine q0c (N := 32) rfl ?_); refine Kd.R_lit (Kd.int .i64) _ 3 ?hg (N := 32) ?hd (xs := ([n] : List Int)) (inner := [.int .i64 n]) (ok := fun _ => True) (okp := fun _ => True) ?hr ?hp (fun _ hk => hk) trivial (Below.refl _ _) (Nat.le_refl _) (by simp) ?_; (case hd => rfl); (case hg => rfl); (case hr => first | (go_simp; done) | (go_simp; rfl)); (case hp => exact (Reps.one (show Kd.M (Kd.int .i64) _ _ _ n [.int .i64 n] from rfl) (Reps.none _ _))); intro vl wl hol hb hg_ hnew_; clear hg_ hnew_; (first | rw [← HLY.out] at hol | (simp only [Int.reduceToNat] at hol; rw [← HLY.out] at hol)); obtain ⟨Al, cl, el⟩ := Kd.R_slice hol; subst el; have n0_ := aS (q03 (by repeat (first | exact HB.out | apply bA | apply bN | apply bD)) hb); clear HB; have HB := n0_; clear n0_; have HRl := aS (Kd.R_reads' hol).2.2; have HCl := aS (Kd.R_reads' hol).2.1; clear hol; have BKn := aS (walk_check.blk BK.out hb); clear BK; have BK := BKn; clear BKn; clear hcz0 hcz1; have hcz0 : wl.cell? ⟨gb, 0, none⟩ = some (.slice A0 l0.length c0) := (q05 BK.out 0).trans rfl; have hcz1 : wl.cell? ⟨gb, 1, none⟩ = some (.bool a1) := (q05 BK.out 1).trans rfl; clear hb) | (go_at_call 70; (with_reducible refine (walk_check.calls0 k A0 c0 l0 a1 Al cl ly _ (Kd.C_below HR.out (by repeat (first | exact HB.out | apply bA | apply bN | apply bD))) HC.out (by repeat (first | (with_reducible exact HRl.out) | (with_reducible refine Kd.C_drewN ?_ _) | (with_reducible refine Kd.C_drew ?_) | (with_reducible refine Kd.C_alloc ?_ _))) HCl.out HLL.out HE2.out).mono ?_); rintro e w2 ⟨hb, g2, rfl, hI⟩; have n0_ := aS (q03 (by repeat (first | exact HB.out | apply bA | apply bN | apply bD)) hb); obtain ⟨w0g2, hI, hIB, hIW⟩ : ∃ w0, q04 w0 w2 g2 l0 a1 ∧ Below w0.heap.size w0 w2 ∧ Below w.heap.size w w0 := ⟨_, hI, hb, (by repeat (first | exact HB.out | apply bA | apply bN | apply bD))⟩; clear HB; have HB := n0_; clear n0_; have HI := aS hI; have HIB := aS hIB; have HIW := aS hIW; clear hI hIB hIW; have BKn := aS (walk_check.blk BK.out hb); clear BK; have BK := BKn; clear BKn; clear hcz0 hcz1; have hcz0 : w2.cell? ⟨gb, 0, none⟩ = some (.slice A0 l0.length c0) := (q05 BK.out 0).trans rfl; have hcz1 : w2.cell? ⟨gb, 1, none⟩ = some (.bool a1) := (q05 BK.out 1).trans rfl; clear hb) | (go_at_call 71; (with_reducible refine (walk_walker_step.calls k g2 l0 a1 n how s1 s2 w0g2 _ (by repeat (first | (with_reducible exact HI.out) | (with_reducible apply q04.alloc) | (with_reducible apply q04.drewN) | (with_reducible apply q04.drew))) (by repeat (first | exact HIB.out | apply bA | apply bN | apply bD)) HS.out).mono ?_); rintro e w9 ⟨rfl, hI9, hb9, hk9⟩; have n0_ := aS (q03 HIW.out hb9); clear HB HI; have HB := n0_; clear n0_ hI9 hb9 hk9))
     go_ret3
     exact ⟨(by first | rfl | (rw [z3m.out]; rfl)), (by repeat (first | exact HB.out | apply bA | apply bN | apply bD))⟩
   ·rw [if_neg z2] at h
    simp only [Option.some.injEq, Prod.mk.injEq] at h
    obtain ⟨rfl, rfl, rfl⟩ := h
    have z2b : (e2 == 0) = false := beq_eq_false_iff_ne.mpr z2
    have z2c : (e2 != 0) = true := bne_iff_ne.mpr z2
    have Z2 := aS z2
    clear z2
    go_enter Tryd.func16, Tryd.ntmps16
    go_wp2_with (first | ((with_reducible refine q0c (N := 3) rfl ?_); refine q0q ?hg (N := 3) ?hd (cs := #[.slice A0 l0.length c0, .bool a1]) (t := 24) ?hr ?_; (case hd => rfl); (case hg => rfl); (case hr => first | (go_simp; done) | (go_simp; rfl)); intro gb hg wb hbox hb; have n0_ := aS (q03 (by repeat (first | exact HB.out | apply bA | apply bN | apply bD)) hb); have BK := aS hbox; have hcz0 : wb.cell? ⟨gb, 0, none⟩ = some (.slice A0 l0.length c0) := (q05 BK.out 0).trans rfl; have hcz1 : wb.cell? ⟨gb, 1, none⟩ = some (.bool a1) := (q05 BK.out 1).trans rfl; clear HB; have HB := n0_; clear n0_ hg hbox hb) | (go_at_call 70; (with_reducible refine (walk_check.nil0 k A0 c0 l0 a1 _ (Kd.C_below HR.out (by repeat (first | exact HB.out | apply bA | apply bN | apply bD))) HC.out HE.out).mono ?_); rintro e w1 ⟨hb, g1, rfl, hI⟩; have n0_ := aS (q03 (by repeat (first | exact HB.out | apply bA | apply bN | apply bD)) hb); obtain ⟨w0g1, hI, hIB, hIW⟩ : ∃ w0, q04 w0 w1 g1 l0 a1 ∧ Below w0.heap.size w0 w1 ∧ Below w.heap.size w w0 := ⟨_, hI, hb, (by repeat (first | exact HB.out | apply bA | apply bN | apply bD))⟩; clear HB; have HB := n0_; clear n0_; have HI := aS hI; have HIB := aS hIB; have HIW := aS hIW; clear hI hIB hIW; have BKn := aS (walk_check.blk BK.out hb); clear BK; have BK := BKn; clear BKn; clear hcz0 hcz1; have hcz0 : w1.cell? ⟨gb, 0, none⟩ = some (.slice A0 l0.length c0) := (q05 BK.out 0).trans rfl; have hcz1 : w1.cell? ⟨gb, 1, none⟩ = some (.bool a1) := (q05 BK.out 1).trans rfl; clear hb) | ((with_reducible refine q0c (N := 32) rfl ?_); refine Kd.R_lit (Kd.int .i64) _ 3 ?hg (N := 32) ?hd (xs := ([n] : List Int)) (inner := [.int .i64 n]) (ok := fun _ => True) (okp := fun _ => True) ?hr ?hp (fun _ hk => hk) trivial (Below.refl _ _) (Nat.le_refl _) (by simp) ?_; (case hd => rfl); (case hg => rfl); (case hr => first | (go_simp; done) | (go_simp; rfl)); (case hp => exact (Reps.one (show Kd.M (Kd.int .i64) _ _ _ n [.int .i64 n] from rfl) (Reps.none _ _))); intro vl wl hol hb hg_ hnew_; clear hg_ hnew_; (first | rw [← HLY.out] at hol | (simp only [Int.reduceToNat] at hol; rw [← HLY.out] at hol)); obtain ⟨Al, cl, el⟩ := Kd.R_slice hol; subst el; have n0_ := aS (q03 (by repeat (first | exact HB.out | apply bA | apply bN | apply bD)) hb); clear HB; have HB := n0_; clear n0_; have HRl := aS (Kd.R_reads' hol).2.2; have HCl := aS (Kd.R_reads' hol).2.1; clear hol; have BKn := aS (walk_check.blk BK.out hb); clear BK; have BK := BKn; clear BKn; clear hcz0 hcz1; have hcz0 : wl.cell? ⟨gb, 0, none⟩ = some (.slice A0 l0.length c0) := (q05 BK.out 0).trans rfl; have hcz1 : wl.cell? ⟨gb, 1, none⟩ = some (.bool a1) := (q05 BK.out 1).trans rfl; clear hb) | (go_at_call 70; (with_reducible refine (walk_check.callsE k A0 c0 l0 a1 Al cl ly e2 Z2.out _ (Kd.C_below HR.out (by repeat (first | exact HB.out | apply bA | apply bN | apply bD))) HC.out (by repeat (first | (with_reducible exact HRl.out) | (with_reducible refine Kd.C_drewN ?_ _) | (with_reducible refine Kd.C_drew ?_) | (with_reducible refine Kd.C_alloc ?_ _))) HCl.out HLL.out HE2.out).mono ?_); rintro e w2 ⟨hb, rfl⟩; have n0_ := aS (q03 (by repeat (first | exact HB.out | apply bA | apply bN | apply bD)) hb); clear HB; have HB := n0_; clear n0_; have BKn := aS (walk_check.blk BK.out hb); clear BK; have BK := BKn; clear BKn; clear hcz0 hcz1; have hcz0 : w2.cell? ⟨gb, 0, none⟩ = some (.slice A0 l0.length c0) := (q05 BK.out 0).trans rfl; have hcz1 : w2.cell? ⟨gb, 1, none⟩ = some (.bool a1) := (q05 BK.out 1).trans rfl; clear hb))
    go_ret3
    exact ⟨rfl, (by repeat (first | exact HB.out | apply bA | apply bN | apply bD))⟩
 ·rw [if_neg z0] at h
  simp only [Option.some.injEq, Prod.mk.injEq] at h
  obtain ⟨rfl, rfl, rfl⟩ := h
  have z0b : (e0 == 0) = false := beq_eq_false_iff_ne.mpr z0
  have z0c : (e0 != 0) = true := bne_iff_ne.mpr z0
  have Z0 := aS z0
  clear z0
  go_enter Tryd.func16, Tryd.ntmps16
  go_wp2_with (first | ((with_reducible refine q0c (N := 3) rfl ?_); refine q0q ?hg (N := 3) ?hd (cs := #[.slice A0 l0.length c0, .bool a1]) (t := 24) ?hr ?_; (case hd => rfl); (case hg => rfl); (case hr => first | (go_simp; done) | (go_simp; rfl)); intro gb hg wb hbox hb; have n0_ := aS (q03 (by repeat (first | exact HB.out | apply bA | apply bN | apply bD)) hb); have BK := aS hbox; have hcz0 : wb.cell? ⟨gb, 0, none⟩ = some (.slice A0 l0.length c0) := (q05 BK.out 0).trans rfl; have hcz1 : wb.cell? ⟨gb, 1, none⟩ = some (.bool a1) := (q05 BK.out 1).trans rfl; clear HB; have HB := n0_; clear n0_ hg hbox hb) | (go_at_call 70; (with_reducible refine (walk_check.nilE k A0 c0 l0 a1 e0 Z0.out _ (Kd.C_below HR.out (by repeat (first | exact HB.out | apply bA | apply bN | apply bD))) HC.out HE.out).mono ?_); rintro e w1 ⟨hb, rfl⟩; have n0_ := aS (q03 (by repeat (first | exact HB.out | apply bA | apply bN | apply bD)) hb); clear HB; have HB := n0_; clear n0_; have BKn := aS (walk_check.blk BK.out hb); clear BK; have BK := BKn; clear BKn; clear hcz0 hcz1; have hcz0 : w1.cell? ⟨gb, 0, none⟩ = some (.slice A0 l0.length c0) := (q05 BK.out 0).trans rfl; have hcz1 : w1.cell? ⟨gb, 1, none⟩ = some (.bool a1) := (q05 BK.out 1).trans rfl; clear hb))
  go_ret3
  exact ⟨rfl, (by repeat (first | exact HB.out | apply bA | apply bN | apply bD))⟩
theorem walk_Step.mono (l0 : List S43) (a1 : Bool) (n how : Int) (k : Nat) : LeO (walk_Step.f k l0 a1 n how) (walk_Step.f (k + 1) l0 a1 n how) :=
 LeO.bind (walk_check.mono l0 a1 [] k) fun _ => LeO.ite (LeO.ite (LeO.refl _) (LeO.bind (walk_check.mono l0 a1 [n] k) fun _ => LeO.ite (LeO.bind (walk_walker_step.mono l0 a1 n how k) fun _ => LeO.refl _) (LeO.refl _))) (LeO.refl _)
theorem ne_own {W : World} {w0 : World} {g : Nat} {l0 : List S43} {q : Bool} {ad : Addr} {n c B : Nat} {xs : List Int} {ok : Nat → Prop} (hI : q04 w0 W g l0 q) (ho : (Kd.int .i64).R 3 W B ok (.slice (some ad) n c) xs) : ad.block ≠ g := by
 have := q04.own_ne hI ho (by decide)
 intro e
 exact this (by simp [Value.ownBlock, e])
def cpre : List Int → List Int → Nat
 | x :: p, y :: q => if x = y then cpre p q + 1 else 0
 | _, _ => 0
theorem cpre_le : ∀ p q : List Int, cpre p q ≤ p.length ∧ cpre p q ≤ q.length
 | [], _ => by simp [cpre]
 | _ :: _, [] => by simp [cpre]
 | x :: p, y :: q => by
  have := cpre_le p q
  unfold cpre
  split <;> simp <;> omega
def walk_Common.f (k : Nat) (l0 : List S43) (a1 : Bool) (a b : Int) : Option (Int × Int) :=
 (walk_check.f k l0 a1 [a, b]).bind fun e => if e = 0 then (walk_walker_path.f k l0 a1 a).bind fun p => (walk_walker_path.f k l0 a1 b).bind fun q =>
  if p.2 = a1 ∧ q.2 = a1 ∧ 1 ≤ cpre p.1 q.1 ∧ p.1.length ≤ 4611686018427387904 then some (rd p.1 ((cpre p.1 q.1 - 1 : Nat) : Int), 0) else none else some (0, e)
set_option maxHeartbeats 8000000 in
set_option maxRecDepth 100000 in
theorem walk_Common.calls (k : Nat) (A0 : Option Addr) (c0 : Nat) (l0 : List S43) (a1 : Bool) (a b : Int) (r1 : Int) (r2 : Int) (w : World) (hr0 : Kd.C k43 w A0 l0.length l0) (hc0 : l0.length ≤ c0) (h : walk_Common.f k l0 a1 a b = some (r1, r2)) :
 Calls Tryd.prog 23 #[.agg #[.slice A0 l0.length c0, .bool a1], .int .i64 a, .int .i64 b] w fun e w' => e = .returned (.tuple #[.int .i64 r1, .int .i64 r2]) ∧ Below w.heap.size w w' := by
 have hu24 := Tryd.underlying24
 unfold walk_Common.f at h
 obtain ⟨ly, hly⟩ : ∃ ly : List Int, ly = [a, b] := ⟨_, rfl⟩
 rw [← hly] at h
 have HLL : Aside0 (ly.length ≤ 4611686018427387904) := ⟨by rw [hly]; simp⟩
 have HLY := aS hly
 clear hly
 obtain ⟨e0, he0, h⟩ := Option.bind_eq_some_iff.1 h
 have HE := aS he0
 have HR := aS hr0
 have HC := aS hc0
 have HB := aS (Below.refl w.heap.size w)
 clear he0 hr0 hc0
 by_cases z0 : e0 = 0
 ·subst z0
  rw [if_pos rfl] at h
  obtain ⟨⟨p, p2⟩, hp, h⟩ := Option.bind_eq_some_iff.1 h
  obtain ⟨⟨q, q2⟩, hq, h⟩ := Option.bind_eq_some_iff.1 h
  by_cases hc : p2 = a1 ∧ q2 = a1 ∧ 1 ≤ cpre p q ∧ p.length ≤ 4611686018427387904
  ·have h2 : some (rd p ((cpre p q - 1 : Nat) : Int), (0 : Int)) = some (r1, r2) := (if_pos hc).symm.trans h
   clear h
   obtain ⟨e1, e2, hc1, hc2⟩ := hc
   rw [e1] at hp
   rw [e2] at hq
   have HP := aS hp
   have HQ := aS hq
   clear hp hq e1 e2
   simp only [Option.some.injEq, Prod.mk.injEq] at h2
   obtain ⟨rfl, rfl⟩ := h2
   have HC1 := aS hc1
   have HC2 := aS hc2
   clear hc1 hc2
   go_enter Tryd.func23, Tryd.ntmps23
   go_wp2_with (first | ((with_reducible refine q0c (N := 3) rfl ?_); refine q0q ?hg (N := 3) ?hd (cs := #[.slice A0 l0.length c0, .bool a1]) (t := 24) ?hr ?_; (case hd => rfl); (case hg => rfl); (case hr => first | (go_simp; done) | (go_simp; rfl)); intro gb hg wb hbox hb; have n0_ := aS (q03 (by repeat (first | exact HB.out | apply bA | apply bN | apply bD)) hb); have BK := aS hbox; have hcz0 : wb.cell? ⟨gb, 0, none⟩ = some (.slice A0 l0.length c0) := (q05 BK.out 0).trans rfl; have hcz1 : wb.cell? ⟨gb, 1, none⟩ = some (.bool a1) := (q05 BK.out 1).trans rfl; clear HB; have HB := n0_; clear n0_ hg hbox hb) | ((with_reducible refine q0c (N := 17) rfl ?_); refine Kd.R_lit (Kd.int .i64) _ 3 ?hg (N := 17) ?hd (xs := ([a, b] : List Int)) (inner := [.int .i64 a, .int .i64 b]) (ok := fun _ => True) (okp := fun _ => True) ?hr ?hp (fun _ hk => hk) trivial (Below.refl _ _) (Nat.le_refl _) (by simp) ?_; (case hd => rfl); (case hg => rfl); (case hr => first | (go_simp; done) | (go_simp; rfl)); (case hp => exact (Reps.one (show Kd.M (Kd.int .i64) _ _ _ a [.int .i64 a] from rfl) (Reps.one (show Kd.M (Kd.int .i64) _ _ _ b [.int .i64 b] from rfl) (Reps.none _ _)))); intro vl wl hol hb hg_ hnew_; clear hg_ hnew_; (first | rw [← HLY.out] at hol | (simp only [Int.reduceToNat] at hol; rw [← HLY.out] at hol)); obtain ⟨Al, cl, el⟩ := Kd.R_slice hol; subst el; have n0_ := aS (q03 (by repeat (first | exact HB.out | apply bA | apply bN | apply bD)) hb); clear HB; have HB := n0_; clear n0_; have HRl := aS (Kd.R_reads' hol).2.2; have HCl := aS (Kd.R_reads' hol).2.1; clear hol; have BKn := aS (walk_check.blk BK.out hb); clear BK; have BK := BKn; clear BKn; clear hcz0 hcz1; have hcz0 : wl.cell? ⟨gb, 0, none⟩ = some (.slice A0 l0.length c0) := (q05 BK.out 0).trans rfl; have hcz1 : wl.cell? ⟨gb, 1, none⟩ = some (.bool a1) := (q05 BK.out 1).trans rfl; clear hb) | (go_at_call 70; (with_reducible refine (walk_check.calls0 k A0 c0 l0 a1 Al cl ly _ (Kd.C_below HR.out (by repeat (first | exact HB.out | apply bA | apply bN | apply bD))) HC.out (by repeat (first | (with_reducible exact HRl.out) | (with_reducible refine Kd.C_drewN ?_ _) | (with_reducible refine Kd.C_drew ?_) | (with_reducible refine Kd.C_alloc ?_ _))) HCl.out HLL.out HE.out).mono ?_); rintro e w2 ⟨hb, g2, rfl, hI⟩; have n0_ := aS (q03 (by repeat (first | exact HB.out | apply bA | apply bN | apply bD)) hb); obtain ⟨w0g2, hI, hIB, hIW⟩ : ∃ w0, q04 w0 w2 g2 l0 a1 ∧ Below w0.heap.size w0 w2 ∧ Below w.heap.size w w0 := ⟨_, hI, hb, (by repeat (first | exact HB.out | apply bA | apply bN | apply bD))⟩; clear HB; have HB := n0_; clear n0_; have HI := aS hI; have HIB := aS hIB; have HIW := aS hIW; clear hI hIB hIW; have BKn := aS (walk_check.blk BK.out hb); clear BK; have BK := BKn; clear BKn; clear hcz0 hcz1; have hcz0 : w2.cell? ⟨gb, 0, none⟩ = some (.slice A0 l0.length c0) := (q05 BK.out 0).trans rfl; have hcz1 : w2.cell? ⟨gb, 1, none⟩ = some (.bool a1) := (q05 BK.out 1).trans rfl; clear hb) | (go_at_call 76; have h_ := HKP.out; clear h_; (with_reducible refine (walk_walker_path.calls k g2 l0 a1 b q a1 w0g2 _ (by repeat (first | (with_reducible exact HI.out) | (with_reducible apply q04.alloc) | (with_reducible apply q04.drewN) | (with_reducible apply q04.drew))) (by repeat (first | exact HIB.out | apply bA | apply bN | apply bD)) HQ.out).mono ?_); rintro e wq ⟨vq, rfl, ho, hI9, hb9, hk9⟩; obtain ⟨Aq, cq, eo⟩ := Kd.R_slice ho; subst eo; have HNQ : Aside0 (∀ ad, Aq = some ad → ad.block ≠ g2) := ⟨fun ad e_ => by subst e_; exact ne_own hI9 ho⟩; have HCQ := aS (Kd.R_reads' ho).2.2; have hkp := (show q07 wp _ g2 none from (by repeat (first | exact HKP.out | apply q0a | apply q0h | apply q0b))).trans hk9 (.inl rfl); clear HKP; have HKP := aS hkp; clear HB HI HIB ho hk9 hkp; have HI := aS hI9; have HIB := aS hb9; have HB := aS (q03 HIW.out hb9); clear hI9 hb9) | (go_at_call 76; (with_reducible refine (walk_walker_path.calls k g2 l0 a1 a p a1 w0g2 _ (by repeat (first | (with_reducible exact HI.out) | (with_reducible apply q04.alloc) | (with_reducible apply q04.drewN) | (with_reducible apply q04.drew))) (by repeat (first | exact HIB.out | apply bA | apply bN | apply bD)) HP.out).mono ?_); rintro e wp ⟨vp, rfl, ho, hI9, hb9, hk9⟩; obtain ⟨Ap, cp, eo⟩ := Kd.R_slice ho; subst eo; have HNP : Aside0 (∀ ad, Ap = some ad → ad.block ≠ g2) := ⟨fun ad e_ => by subst e_; exact ne_own hI9 ho⟩; have HCP := aS (Kd.R_reads' ho).2.2; have HKP := aS (q07.refl wp g2 none); clear HB HI HIB ho hk9; have HI := aS hI9; have HIB := aS hb9; have HB := aS (q03 HIW.out hb9); clear hI9 hb9))
   go_loopw [12] (fun v W => ∃ i : Nat, v = .int .i64 (i : Int) ∧ Aside0 (i + cpre (p.drop i) (q.drop i) = cpre p q) ∧ Aside0 (q07 wp W g2 none) ∧ Aside0 (q07 wq W g2 none) ∧ Aside0 (Below w.heap.size w W)) (fun v _ => walk_check.left p v)
   case atStart => exact ⟨0, rfl, ⟨by simp⟩, ⟨by repeat (first | exact HKP.out | apply q0a | apply q0h | apply q0b)⟩, ⟨by repeat (first | exact q07.refl _ _ _ | apply q0a | apply q0h | apply q0b)⟩, ⟨(by repeat (first | exact HB.out | apply bA | apply bN | apply bD))⟩⟩
   case round =>
    clear HB
    obtain ⟨i, rfl, HI2, HK1, HK2, HB⟩ := hrel
    have hle := cpre_le p q
    have hi := HI2.out
    by_cases ci : i < p.length
    ·have cib : decide ((i : Int) < (p.length : Int)) = true := decide_eq_true (by omega)
     have cib2 : decide (i < p.length) = true := decide_eq_true ci
     by_cases cj : i < q.length
     ·have cjb : decide ((i : Int) < (q.length : Int)) = true := decide_eq_true (by omega)
      have cjb2 : decide (i < q.length) = true := decide_eq_true cj
      have p1 : 0 ≤ (i : Int) := Int.natCast_nonneg _
      have q1 : (i : Int) < (p.length : Int) := by omega
      have q1' : (i : Int) < (q.length : Int) := by omega
      obtain ⟨ad1, e1, hx⟩ := Kd.at_int HCP.out (i : Int) p1 q1
      obtain ⟨ad2, e2, hy⟩ := Kd.at_int HCQ.out (i : Int) p1 q1'
      subst e1 e2
      replace hx := q1p HK1.out hx (by rw [q0n]; exact HNP.out _ rfl)
      replace hy := q1p HK2.out hy (by rw [q0n]; exact HNQ.out _ rfl)
      rw [show ((i : Int)).toNat = i from rfl] at hx hy
      replace p1 := eq_true p1
      replace q1 := eq_true q1
      replace q1' := eq_true q1'
      rw [walk_check.dropL p i ci, walk_check.dropL q i cj, cpre] at hi
      by_cases ce : rd p (i : Int) = rd q (i : Int)
      ·rw [if_pos ce] at hi
       have ceb : (rd p (i : Int) == rd q (i : Int)) = true := beq_iff_eq.mpr ce
       have hw : wrap64 ((i : Int) + 1) = ((i + 1 : Nat) : Int) := by have := HC2.out; unfold wrap64; omega
       have HI3 : Aside0 (i + 1 + cpre (p.drop (i + 1)) (q.drop (i + 1)) = cpre p q) := ⟨by omega⟩
       have CI := aS ci
       clear hi ci cj ce hle HI2
       go_wp2
       repeat (go_quiet (fail); try go_wp2)
       go_roundw
       case rel => exact ⟨i + 1, by first | rfl | simp [hw], HI3, ⟨by repeat (first | exact HK1.out | apply q0a | apply q0h | apply q0b)⟩, ⟨by repeat (first | exact HK2.out | apply q0a | apply q0h | apply q0b)⟩, ⟨(by repeat (first | exact HB.out | apply bA | apply bN | apply bD))⟩⟩
       case measure => have := CI.out; simp [walk_check.left, hw]; omega
      ·rw [if_neg ce] at hi
       have ceb : (rd p (i : Int) == rd q (i : Int)) = false := beq_eq_false_iff_ne.mpr ce
       have hi0 : i = cpre p q := by omega
       have hc1 := HC1.out
       obtain ⟨m, hm⟩ : ∃ m : Nat, cpre p q = m + 1 := ⟨cpre p q - 1, by omega⟩
       have hml : m < p.length := by omega
       have p3 : 0 ≤ (m : Int) := Int.natCast_nonneg _
       have q3 : (m : Int) < (p.length : Int) := by omega
       obtain ⟨ad3, e3, hz⟩ := Kd.at_int HCP.out (m : Int) p3 q3
       first | subst e3 | (injection e3 with e3; subst e3)
       replace hz := q1p HK1.out hz (by rw [q0n]; exact HNP.out _ rfl)
       rw [show ((m : Int)).toNat = m from rfl] at hz
       have hw3 : wrap64 ((i : Int) - 1) = (m : Int) := by have := HC2.out; unfold wrap64; omega
       replace p3 := eq_true p3
       replace q3 := eq_true q3
       have HM : Aside0 (((cpre p q - 1 : Nat) : Int) = (m : Int)) := ⟨by omega⟩
       clear hi hle ci cj ce HI2 hc1 hm hml hi0
       go_wp2
       repeat (go_quiet (fail); try go_wp2)
       go_ret2
       exact ⟨(by rw [HM.out]; rfl), (by repeat (first | exact HB.out | apply bA | apply bN | apply bD))⟩
     ·have cjb : decide ((i : Int) < (q.length : Int)) = false := decide_eq_false (by omega)
      have cjb2 : decide (i < q.length) = false := decide_eq_false cj
      have hi0 : i = cpre p q := by omega
      have ce : True := trivial
      have hc1 := HC1.out
      obtain ⟨m, hm⟩ : ∃ m : Nat, cpre p q = m + 1 := ⟨cpre p q - 1, by omega⟩
      have hml : m < p.length := by omega
      have p3 : 0 ≤ (m : Int) := Int.natCast_nonneg _
      have q3 : (m : Int) < (p.length : Int) := by omega
      obtain ⟨ad3, e3, hz⟩ := Kd.at_int HCP.out (m : Int) p3 q3
      first | subst e3 | (injection e3 with e3; subst e3)
      replace hz := q1p HK1.out hz (by rw [q0n]; exact HNP.out _ rfl)
      rw [show ((m : Int)).toNat = m from rfl] at hz
      have hw3 : wrap64 ((i : Int) - 1) = (m : Int) := by have := HC2.out; unfold wrap64; omega
      replace p3 := eq_true p3
      replace q3 := eq_true q3
      have HM : Aside0 (((cpre p q - 1 : Nat) : Int) = (m : Int)) := ⟨by omega⟩
      clear hi hle ci cj ce HI2 hc1 hm hml hi0
      go_wp2
      repeat (go_quiet (fail); try go_wp2)
      go_ret2
      exact ⟨(by rw [HM.out]; rfl), (by repeat (first | exact HB.out | apply bA | apply bN | apply bD))⟩
    ·have cib : decide ((i : Int) < (p.length : Int)) = false := decide_eq_false (by omega)
     have cib2 : decide (i < p.length) = false := decide_eq_false ci
     have hi0 : i = cpre p q := by omega
     have ce : True := trivial
     have cj : True := trivial
     have hc1 := HC1.out
     obtain ⟨m, hm⟩ : ∃ m : Nat, cpre p q = m + 1 := ⟨cpre p q - 1, by omega⟩
     have hml : m < p.length := by omega
     have p3 : 0 ≤ (m : Int) := Int.natCast_nonneg _
     have q3 : (m : Int) < (p.length : Int) := by omega
     obtain ⟨ad3, e3, hz⟩ := Kd.at_int HCP.out (m : Int) p3 q3
     first | subst e3 | (injection e3 with e3; subst e3)
     replace hz := q1p HK1.out hz (by rw [q0n]; exact HNP.out _ rfl)
     rw [show ((m : Int)).toNat = m from rfl] at hz
     have hw3 : wrap64 ((i : Int) - 1) = (m : Int) := by have := HC2.out; unfold wrap64; omega
     replace p3 := eq_true p3
     replace q3 := eq_true q3
     have HM : Aside0 (((cpre p q - 1 : Nat) : Int) = (m : Int)) := ⟨by omega⟩
     clear hi hle ci cj ce HI2 hc1 hm hml hi0
     go_wp2
     repeat (go_quiet (fail); try go_wp2)
     go_ret2
     exact ⟨(by rw [HM.out]; rfl), (by repeat (first | exact HB.out | apply bA | apply bN | apply bD))⟩
  ·have h2 : (none : Option (Int × Int)) = some (r1, r2) := (if_neg hc).symm.trans h
   exact absurd h2 (by simp)
 ·rw [if_neg z0] at h
  simp only [Option.some.injEq, Prod.mk.injEq] at h
  obtain ⟨rfl, rfl⟩ := h
  have z0b : (e0 == 0) = false := beq_eq_false_iff_ne.mpr z0
  have z0c : (e0 != 0) = true := bne_iff_ne.mpr z0
  have Z0 := aS z0
  clear z0
  go_enter Tryd.func23, Tryd.ntmps23
  go_wp2_with (first | ((with_reducible refine q0c (N := 3) rfl ?_); refine q0q ?hg (N := 3) ?hd (cs := #[.slice A0 l0.length c0, .bool a1]) (t := 24) ?hr ?_; (case hd => rfl); (case hg => rfl); (case hr => first | (go_simp; done) | (go_simp; rfl)); intro gb hg wb hbox hb; have n0_ := aS (q03 (by repeat (first | exact HB.out | apply bA | apply bN | apply bD)) hb); have BK := aS hbox; have hcz0 : wb.cell? ⟨gb, 0, none⟩ = some (.slice A0 l0.length c0) := (q05 BK.out 0).trans rfl; have hcz1 : wb.cell? ⟨gb, 1, none⟩ = some (.bool a1) := (q05 BK.out 1).trans rfl; clear HB; have HB := n0_; clear n0_ hg hbox hb) | ((with_reducible refine q0c (N := 17) rfl ?_); refine Kd.R_lit (Kd.int .i64) _ 3 ?hg (N := 17) ?hd (xs := ([a, b] : List Int)) (inner := [.int .i64 a, .int .i64 b]) (ok := fun _ => True) (okp := fun _ => True) ?hr ?hp (fun _ hk => hk) trivial (Below.refl _ _) (Nat.le_refl _) (by simp) ?_; (case hd => rfl); (case hg => rfl); (case hr => first | (go_simp; done) | (go_simp; rfl)); (case hp => exact (Reps.one (show Kd.M (Kd.int .i64) _ _ _ a [.int .i64 a] from rfl) (Reps.one (show Kd.M (Kd.int .i64) _ _ _ b [.int .i64 b] from rfl) (Reps.none _ _)))); intro vl wl hol hb hg_ hnew_; clear hg_ hnew_; (first | rw [← HLY.out] at hol | (simp only [Int.reduceToNat] at hol; rw [← HLY.out] at hol)); obtain ⟨Al, cl, el⟩ := Kd.R_slice hol; subst el; have n0_ := aS (q03 (by repeat (first | exact HB.out | apply bA | apply bN | apply bD)) hb); clear HB; have HB := n0_; clear n0_; have HRl := aS (Kd.R_reads' hol).2.2; have HCl := aS (Kd.R_reads' hol).2.1; clear hol; have BKn := aS (walk_check.blk BK.out hb); clear BK; have BK := BKn; clear BKn; clear hcz0 hcz1; have hcz0 : wl.cell? ⟨gb, 0, none⟩ = some (.slice A0 l0.length c0) := (q05 BK.out 0).trans rfl; have hcz1 : wl.cell? ⟨gb, 1, none⟩ = some (.bool a1) := (q05 BK.out 1).trans rfl; clear hb) | (go_at_call 70; (with_reducible refine (walk_check.callsE k A0 c0 l0 a1 Al cl ly e0 Z0.out _ (Kd.C_below HR.out (by repeat (first | exact HB.out | apply bA | apply bN | apply bD))) HC.out (by repeat (first | (with_reducible exact HRl.out) | (with_reducible refine Kd.C_drewN ?_ _) | (with_reducible refine Kd.C_drew ?_) | (with_reducible refine Kd.C_alloc ?_ _))) HCl.out HLL.out HE.out).mono ?_); rintro e w2 ⟨hb, rfl⟩; have n0_ := aS (q03 (by repeat (first | exact HB.out | apply bA | apply bN | apply bD)) hb); clear HB; have HB := n0_; clear n0_; have BKn := aS (walk_check.blk BK.out hb); clear BK; have BK := BKn; clear BKn; clear hcz0 hcz1; have hcz0 : w2.cell? ⟨gb, 0, none⟩ = some (.slice A0 l0.length c0) := (q05 BK.out 0).trans rfl; have hcz1 : w2.cell? ⟨gb, 1, none⟩ = some (.bool a1) := (q05 BK.out 1).trans rfl; clear hb))
  go_ret2
  exact ⟨rfl, (by repeat (first | exact HB.out | apply bA | apply bN | apply bD))⟩
theorem walk_Common.mono (l0 : List S43) (a1 : Bool) (a b : Int) (k : Nat) : LeO (walk_Common.f k l0 a1 a b) (walk_Common.f (k + 1) l0 a1 a b) :=
 LeO.bind (walk_check.mono l0 a1 [a, b] k) fun _ => LeO.ite (LeO.bind (walk_walker_path.mono l0 a1 a k) fun _ => LeO.bind (walk_walker_path.mono l0 a1 b k) fun _ => LeO.refl _) (LeO.refl _)
def clerestorylaw1_oneP.f  : Option ((List (S43)) × Bool) := some ((([(⟨1, (⟨#[]⟩ : ByteArray), ([] : List (S122)), (⟨#[]⟩ : ByteArray), (-1), (([1] : List Int))⟩ : S43), (⟨2, (⟨#[112]⟩ : ByteArray), (([(⟨(⟨#[97]⟩ : ByteArray), (⟨#[34]⟩ : ByteArray)⟩ : S122)] : List (S122))), (⟨#[]⟩ : ByteArray), 0, (([2] : List Int))⟩ : S43), (⟨3, (⟨#[]⟩ : ByteArray), ([] : List (S122)), (⟨#[60, 10]⟩ : ByteArray), 1, ([] : List Int)⟩ : S43)] : List (S43))), false)
set_option maxHeartbeats 8000000 in
set_option maxRecDepth 100000 in
theorem clerestorylaw1_oneP.calls  (r1 : List (S43)) (r2 : Bool) (w : World) (h : clerestorylaw1_oneP.f  = some (r1, r2)) :
 Calls Tryd.prog 75 #[] w fun e w' => ∃ v0_ : Value, e = .returned (.agg #[v0_, .bool r2]) ∧ Kd.N k43 43 w' w.heap.size (fun k_ => (w.heap.size ≤ k_)) v0_ r1 ∧ Below w.heap.size w w' := by
 have hu24 := Tryd.underlying24
 have hu43 := Tryd.underlying43
 have hu122 := Tryd.underlying122
 have HB := aS (Below.refl w.heap.size w)
 have H := h; clear h; unfold clerestorylaw1_oneP.f at H
 obtain ⟨y242, hy242⟩ : ∃ y_ : List Int, y_ = (([1] : List Int)) := ⟨_, rfl⟩
 replace H : (some ((([(⟨1, (⟨#[]⟩ : ByteArray), ([] : List (S122)), (⟨#[]⟩ : ByteArray), (-1), y242⟩ : S43), (⟨2, (⟨#[112]⟩ : ByteArray), (([(⟨(⟨#[97]⟩ : ByteArray), (⟨#[34]⟩ : ByteArray)⟩ : S122)] : List (S122))), (⟨#[]⟩ : ByteArray), 0, (([2] : List Int))⟩ : S43), (⟨3, (⟨#[]⟩ : ByteArray), ([] : List (S122)), (⟨#[60, 10]⟩ : ByteArray), 1, ([] : List Int)⟩ : S43)] : List (S43))), false)) = some (r1, r2) := by first | (rw [hy242]; with_reducible exact H) | (have H2_ := (Option.bind_some _ _).symm.trans H; rw [hy242]; with_reducible exact H2_) | (have H2_ := (Option.bind_some _ _).symm.trans H; with_reducible exact H2_) | with_reducible exact H | (rw [hy242]; exact H) | exact H
 have Ny242 := aS hy242
 clear hy242
 obtain ⟨y245, hy245⟩ : ∃ y_ : List (S122), y_ = (([(⟨(⟨#[97]⟩ : ByteArray), (⟨#[34]⟩ : ByteArray)⟩ : S122)] : List (S122))) := ⟨_, rfl⟩
 replace H : (some ((([(⟨1, (⟨#[]⟩ : ByteArray), ([] : List (S122)), (⟨#[]⟩ : ByteArray), (-1), y242⟩ : S43), (⟨2, (⟨#[112]⟩ : ByteArray), y245, (⟨#[]⟩ : ByteArray), 0, (([2] : List Int))⟩ : S43), (⟨3, (⟨#[]⟩ : ByteArray), ([] : List (S122)), (⟨#[60, 10]⟩ : ByteArray), 1, ([] : List Int)⟩ : S43)] : List (S43))), false)) = some (r1, r2) := by first | (rw [hy245]; with_reducible exact H) | (have H2_ := (Option.bind_some _ _).symm.trans H; rw [hy245]; with_reducible exact H2_) | (have H2_ := (Option.bind_some _ _).symm.trans H; with_reducible exact H2_) | with_reducible exact H | (rw [hy245]; exact H) | exact H
 have Ny245 := aS hy245
 clear hy245
 obtain ⟨y248, hy248⟩ : ∃ y_ : List Int, y_ = (([2] : List Int)) := ⟨_, rfl⟩
 replace H : (some ((([(⟨1, (⟨#[]⟩ : ByteArray), ([] : List (S122)), (⟨#[]⟩ : ByteArray), (-1), y242⟩ : S43), (⟨2, (⟨#[112]⟩ : ByteArray), y245, (⟨#[]⟩ : ByteArray), 0, y248⟩ : S43), (⟨3, (⟨#[]⟩ : ByteArray), ([] : List (S122)), (⟨#[60, 10]⟩ : ByteArray), 1, ([] : List Int)⟩ : S43)] : List (S43))), false)) = some (r1, r2) := by first | (rw [hy248]; with_reducible exact H) | (have H2_ := (Option.bind_some _ _).symm.trans H; rw [hy248]; with_reducible exact H2_) | (have H2_ := (Option.bind_some _ _).symm.trans H; with_reducible exact H2_) | with_reducible exact H | (rw [hy248]; exact H) | exact H
 have Ny248 := aS hy248
 clear hy248
 obtain ⟨y251, hy251⟩ : ∃ y_ : List (S43), y_ = (([(⟨1, (⟨#[]⟩ : ByteArray), ([] : List (S122)), (⟨#[]⟩ : ByteArray), (-1), y242⟩ : S43), (⟨2, (⟨#[112]⟩ : ByteArray), y245, (⟨#[]⟩ : ByteArray), 0, y248⟩ : S43), (⟨3, (⟨#[]⟩ : ByteArray), ([] : List (S122)), (⟨#[60, 10]⟩ : ByteArray), 1, ([] : List Int)⟩ : S43)] : List (S43))) := ⟨_, rfl⟩
 replace H : (some (y251, false)) = some (r1, r2) := by first | (rw [hy251]; with_reducible exact H) | (have H2_ := (Option.bind_some _ _).symm.trans H; rw [hy251]; with_reducible exact H2_) | (have H2_ := (Option.bind_some _ _).symm.trans H; with_reducible exact H2_) | with_reducible exact H | (rw [hy251]; exact H) | exact H
 have Ny251 := aS hy251
 clear hy251
 simp only [Option.some.injEq, Prod.mk.injEq] at H
 obtain ⟨rfl, rfl⟩ := H
 go_enter Tryd.func75, Tryd.ntmps75
 go_wp2_with (first | ((with_reducible refine q0c (N := 0) rfl ?_); refine box0 rfl (N := 0) rfl (cs := #[.slice none 0 0, .bool false]) (t := 24) (by first | (go_simp; done) | (go_simp; rfl)) (by repeat (first | (with_reducible first | exact HB.out | apply bA | apply bN | apply bD) | exact HB.out)) ?_; clear HB; intro gb241 w1 BK241 GW241 HB; have GE241 := GW241) | ((with_reducible refine q0c (N := 1) rfl ?_); refine Kd.R_lit (Kd.int .i64) _ 3 ?hg (N := 1) ?hd (xs := ([1] : List Int)) (inner := [.int .i64 1]) (ok := fun _ => True) (okp := fun _ => True) ?hr ?hp (fun _ hk => hk) trivial (Below.refl _ _) (Nat.le_refl _) (by simp) ?_; (case hd => rfl); (case hg => rfl); (case hr => first | (go_simp; done) | (go_simp; rfl)); (case hp => exact (Reps.one (show Kd.M (Kd.int .i64) _ _ _ 1 [.int .i64 1] from rfl) (Reps.none _ _))); intro v243 w2 ho3 hb hg_ hnew_; clear hg_ hnew_; (first | rw [← Ny242.out] at ho3 | (simp only [Int.reduceToNat] at ho3; rw [← Ny242.out] at ho3)); have HO244 := aS (Kd.R_lower (Kd.R_newM (M := fun k_ => (w.heap.size ≤ k_)) ho3 (q0g (by repeat (first | (with_reducible first | exact HB.out | apply bA | apply bN | apply bD | refine bS ?_ GE241.out) | exact HB.out))) (fun k_ h_ => h_)) (q0g (by repeat (first | (with_reducible first | exact HB.out | apply bA | apply bN | apply bD | refine bS ?_ GE241.out) | exact HB.out)))); replace BK241 := aS (q08 (g := gb241) (o := .cells #[.slice none 0 0, .bool false] 24 (0, 0)) (by (with_reducible repeat (first | refine kN ?_ _ | refine kD ?_ | refine kA ?_ _)); exact BK241.out) hb); replace HB := aS (q03 (by repeat (first | (with_reducible first | exact HB.out | apply bA | apply bN | apply bD | refine bS ?_ GE241.out) | exact HB.out)) hb); clear hb ho3; obtain ⟨Ao4, co4, eo4⟩ := Kd.R_slice HO244.out; subst eo4) | ((with_reducible refine q0c (N := 4) rfl ?_); refine Kd.R_lit k122 _ 122 ?hg (N := 4) ?hd (xs := ([(⟨(⟨#[97]⟩ : ByteArray), (⟨#[34]⟩ : ByteArray)⟩ : S122)] : List (S122))) (inner := [.string (⟨#[97]⟩ : ByteArray), .string (⟨#[34]⟩ : ByteArray)]) (ok := fun _ => True) (okp := fun _ => True) ?hr ?hp (fun _ hk => hk) trivial (Below.refl _ _) (Nat.le_refl _) (by simp) ?_; (case hd => rfl); (case hg => rfl); (case hr => first | (go_simp; done) | (go_simp; rfl)); (case hp => exact (Reps.c2 (show Kd.M k122 _ _ _ (⟨(⟨#[97]⟩ : ByteArray), (⟨#[34]⟩ : ByteArray)⟩ : S122) [.string (⟨#[97]⟩ : ByteArray), .string (⟨#[34]⟩ : ByteArray)] from (k122_mkM _ _ _ (⟨(⟨#[97]⟩ : ByteArray), (⟨#[34]⟩ : ByteArray)⟩ : S122) )) (Reps.none _ _))); intro v246 w5 ho6 hb hg_ hnew_; clear hg_ hnew_; (first | rw [← Ny245.out] at ho6 | (simp only [Int.reduceToNat] at ho6; rw [← Ny245.out] at ho6)); replace HO244 := aS (Kd.R_below (by (with_reducible repeat (first | apply rA | apply rN | apply rD)); exact HO244.out) hb); have HO247 := aS (Kd.R_lower (Kd.R_newM (M := fun k_ => (w.heap.size ≤ k_)) ho6 (q0g (by repeat (first | (with_reducible first | exact HB.out | apply bA | apply bN | apply bD | refine bS ?_ GE241.out) | exact HB.out))) (fun k_ h_ => h_)) (q0g (by repeat (first | (with_reducible first | exact HB.out | apply bA | apply bN | apply bD | refine bS ?_ GE241.out) | exact HB.out)))); replace BK241 := aS (q08 (g := gb241) (o := .cells #[.slice none 0 0, .bool false] 24 (0, 0)) (by (with_reducible repeat (first | refine kN ?_ _ | refine kD ?_ | refine kA ?_ _)); exact BK241.out) hb); replace HB := aS (q03 (by repeat (first | (with_reducible first | exact HB.out | apply bA | apply bN | apply bD | refine bS ?_ GE241.out) | exact HB.out)) hb); clear hb ho6) | ((with_reducible refine q0c (N := 5) rfl ?_); refine Kd.R_lit (Kd.int .i64) _ 3 ?hg (N := 5) ?hd (xs := ([2] : List Int)) (inner := [.int .i64 2]) (ok := fun _ => True) (okp := fun _ => True) ?hr ?hp (fun _ hk => hk) trivial (Below.refl _ _) (Nat.le_refl _) (by simp) ?_; (case hd => rfl); (case hg => rfl); (case hr => first | (go_simp; done) | (go_simp; rfl)); (case hp => exact (Reps.one (show Kd.M (Kd.int .i64) _ _ _ 2 [.int .i64 2] from rfl) (Reps.none _ _))); intro v249 w7 ho8 hb hg_ hnew_; clear hg_ hnew_; (first | rw [← Ny248.out] at ho8 | (simp only [Int.reduceToNat] at ho8; rw [← Ny248.out] at ho8)); have n0_ := aS (Kd.R_elder' (by (with_reducible repeat (first | apply rA | apply rN | apply rD)); exact HO244.out) (Kd.R_base ho8) hb); have n1_ := aS (Kd.R_below (by (with_reducible repeat (first | apply rA | apply rN | apply rD)); exact HO247.out) hb); have n2_ := aS (Kd.R_lower (Kd.R_new' (Kd.R_newM (M := fun k_ => (w.heap.size ≤ k_)) ho8 (q0g (by repeat (first | (with_reducible first | exact HB.out | apply bA | apply bN | apply bD | refine bS ?_ GE241.out) | exact HB.out))) (fun k_ h_ => h_)) (Kd.R_lt (by (with_reducible repeat (first | apply rA | apply rN | apply rD)); exact HO244.out))) (q0g (by repeat (first | (with_reducible first | exact HB.out | apply bA | apply bN | apply bD | refine bS ?_ GE241.out) | exact HB.out)))); have n3_ := aS (q08 (g := gb241) (o := .cells #[.slice none 0 0, .bool false] 24 (0, 0)) (by (with_reducible repeat (first | refine kN ?_ _ | refine kD ?_ | refine kA ?_ _)); exact BK241.out) hb); have n4_ := aS (q03 (by repeat (first | (with_reducible first | exact HB.out | apply bA | apply bN | apply bD | refine bS ?_ GE241.out) | exact HB.out)) hb); clear HO244; clear HO247; clear BK241; clear HB; have HO244 := n0_; have HO247 := n1_; have HO250 := n2_; have BK241 := n3_; have HB := n4_; clear n0_ n1_ n2_ n3_ n4_; clear hb ho8; obtain ⟨Ao9, co9, eo9⟩ := Kd.R_slice HO250.out; subst eo9; obtain ⟨Ao10, co10, eo10⟩ := Kd.R_slice HO247.out; subst eo10) | ((with_reducible refine q0c (N := 8) rfl ?_); refine Kd.N_lit k43 _ 43 ?hg (N' := 8) ?hd (xs := ([(⟨1, (⟨#[]⟩ : ByteArray), ([] : List (S122)), (⟨#[]⟩ : ByteArray), (-1), y242⟩ : S43), (⟨2, (⟨#[112]⟩ : ByteArray), y245, (⟨#[]⟩ : ByteArray), 0, y248⟩ : S43), (⟨3, (⟨#[]⟩ : ByteArray), ([] : List (S122)), (⟨#[60, 10]⟩ : ByteArray), 1, ([] : List Int)⟩ : S43)] : List (S43))) (inner := [.int .i64 1, .string (⟨#[]⟩ : ByteArray), .slice none 0 0, .string (⟨#[]⟩ : ByteArray), .int .i64 (-1), .slice Ao4 y242.length co4, .int .i64 2, .string (⟨#[112]⟩ : ByteArray), .slice Ao10 y245.length co10, .string (⟨#[]⟩ : ByteArray), .int .i64 0, .slice Ao9 y248.length co9, .int .i64 3, .string (⟨#[]⟩ : ByteArray), .slice none 0 0, .string (⟨#[60, 10]⟩ : ByteArray), .int .i64 1, .slice none 0 0]) (ok := (fun k_ => (w.heap.size ≤ k_) ∧ k_ ≠ gb241)) (okp := (fun k_ => (w.heap.size ≤ k_) ∧ k_ ≠ gb241)) ?hr ?hp (fun _ hk => hk) ((show ∀ k_, w7.heap.size ≤ k_ → (fun k_ => (w.heap.size ≤ k_) ∧ k_ ≠ gb241) k_ from fun k_ hk => ⟨(Nat.le_trans (q0g (by repeat (first | (with_reducible first | exact HB.out | apply bA | apply bN | apply bD | refine bS ?_ GE241.out) | exact HB.out))) hk), Kd.freshB (g := gb241) (o := .cells #[.slice none 0 0, .bool false] 24 (0, 0)) (by (with_reducible repeat (first | refine kN ?_ _ | refine kD ?_ | refine kA ?_ _)); exact BK241.out) k_ hk⟩) _ (by first | exact Nat.le_refl _ | simp)) (Below.refl _ _) (Nat.le_refl _) (by simp) ?_; (case hd => rfl); (case hg => rfl); (case hr => first | (go_simp; done) | (go_simp; rfl)); (case hp => exact (Reps.c6 (show Kd.FK k43 _ _ (⟨1, (⟨#[]⟩ : ByteArray), ([] : List (S122)), (⟨#[]⟩ : ByteArray), (-1), y242⟩ : S43) [.int .i64 1, .string (⟨#[]⟩ : ByteArray), .slice none 0 0, .string (⟨#[]⟩ : ByteArray), .int .i64 (-1), .slice Ao4 y242.length co4] from (k43_mkF _ _ (⟨1, (⟨#[]⟩ : ByteArray), ([] : List (S122)), (⟨#[]⟩ : ByteArray), (-1), y242⟩ : S43) (Nat.le_refl _) (Kd.F_nil _ _ _) (Kd.R_reads' (Kd.R_mono (ok' := (fun k_ => (w.heap.size ≤ k_) ∧ k_ ≠ gb241)) (Kd.R_types (HO244.out) BK241.out (by decide)) (fun k_ hk => ⟨hk.1.1.1, hk.2⟩))).2.1 (Kd.R_F (Kd.R_mono (ok' := (fun k_ => (w.heap.size ≤ k_) ∧ k_ ≠ gb241)) (Kd.R_types (HO244.out) BK241.out (by decide)) (fun k_ hk => ⟨hk.1.1.1, hk.2⟩))))) (Reps.c6 (show Kd.FK k43 _ _ (⟨2, (⟨#[112]⟩ : ByteArray), y245, (⟨#[]⟩ : ByteArray), 0, y248⟩ : S43) [.int .i64 2, .string (⟨#[112]⟩ : ByteArray), .slice Ao10 y245.length co10, .string (⟨#[]⟩ : ByteArray), .int .i64 0, .slice Ao9 y248.length co9] from (k43_mkFV _ _ (⟨2, (⟨#[112]⟩ : ByteArray), y245, (⟨#[]⟩ : ByteArray), 0, y248⟩ : S43) (Kd.R_V (base' := 0) (Kd.R_mono (ok' := (fun k_ => (w.heap.size ≤ k_) ∧ k_ ≠ gb241)) (Kd.R_types (HO247.out) BK241.out (by decide)) (fun k_ hk => ⟨hk.1.1, hk.2⟩))) (Kd.R_V (base' := 0) (Kd.R_mono (ok' := (fun k_ => (w.heap.size ≤ k_) ∧ k_ ≠ gb241)) (Kd.R_types (HO250.out) BK241.out (by decide)) (fun k_ hk => ⟨hk.1.1.1, hk.2⟩))))) (Reps.c6 (show Kd.FK k43 _ _ (⟨3, (⟨#[]⟩ : ByteArray), ([] : List (S122)), (⟨#[60, 10]⟩ : ByteArray), 1, ([] : List Int)⟩ : S43) [.int .i64 3, .string (⟨#[]⟩ : ByteArray), .slice none 0 0, .string (⟨#[60, 10]⟩ : ByteArray), .int .i64 1, .slice none 0 0] from (k43_mkF _ _ (⟨3, (⟨#[]⟩ : ByteArray), ([] : List (S122)), (⟨#[60, 10]⟩ : ByteArray), 1, ([] : List Int)⟩ : S43) (Nat.le_refl _) (Kd.F_nil _ _ _) (Nat.le_refl _) (Kd.F_nil _ _ _))) (Reps.none _ _))))); intro v252 w11 ho12 hb hg_ hnew_; clear hg_ hnew_; (first | rw [← Ny251.out] at ho12 | (simp only [Int.reduceToNat] at ho12; rw [← Ny251.out] at ho12)); have n0_ := aS (Kd.N_lower ho12 (q0g (by repeat (first | (with_reducible first | exact HB.out | apply bA | apply bN | apply bD | refine bS ?_ GE241.out) | exact HB.out)))); have n1_ := aS (q08 (g := gb241) (o := .cells #[.slice none 0 0, .bool false] 24 (0, 0)) (by (with_reducible repeat (first | refine kN ?_ _ | refine kD ?_ | refine kA ?_ _)); exact BK241.out) hb); have n2_ := aS (q03 (by repeat (first | (with_reducible first | exact HB.out | apply bA | apply bN | apply bD | refine bS ?_ GE241.out) | exact HB.out)) hb); clear BK241; clear HB; clear HO244; clear HO247; clear HO250; have HO253 := n0_; have BK241 := n1_; have HB := n2_; clear n0_ n1_ n2_; clear hb ho12; obtain ⟨Ao13, co13, eo13⟩ := Kd.N_slice HO253.out; subst eo13; obtain ⟨hcz14_0, hcz14_1, hfz14_0, hfz14_1⟩ := bk2 BK241.out))
 refine bodyPost_ret (results_cell_row rfl _ _ gb241 24 #[.slice Ao13 y251.length co13, .bool false] (0, 0) _ rfl (by (with_reducible repeat (first | refine kN ?_ _ | refine kD ?_ | refine kA ?_ _)); refine q0t (cs := #[.slice Ao13 y251.length co13, .bool false]) ?_ 1 _ rfl; (with_reducible repeat (first | refine kN ?_ _ | refine kD ?_ | refine kA ?_ _)); refine q0t (cs := #[.slice none 0 0, .bool false]) ?_ 0 _ rfl; (with_reducible repeat (first | refine kN ?_ _ | refine kD ?_ | refine kA ?_ _)); exact BK241.out) Tryd.underlying24 rfl (by kernel_rfl)) rfl ?_
 exact ⟨_, by first | rfl | (simp [q02, q01] <;> rfl) | (simp [*, q02, q01] <;> rfl), by (with_reducible repeat (first | apply nA | apply nN | apply nD)); exact Kd.N_mono (Kd.N_far (p := ⟨gb241, 1, none⟩) (Kd.N_far (p := ⟨gb241, 0, none⟩) (Kd.N_mono HO253.out (fun k_ hk => (⟨hk, hk.2⟩ : _ ∧ k_ ≠ gb241))) (fun _ hk => hk.2) (.slice Ao13 y251.length co13)) (fun _ hk => hk.2) (.bool false)) (fun _ hk => hk.1.1), by repeat (first | (with_reducible first | exact HB.out | apply bA | apply bN | apply bD | refine bS ?_ GE241.out) | exact HB.out)⟩
def clerestorylaw1_walkBegun.f (k : Nat)  : Option (Bool) := (clerestorylaw1_oneP.f).bind fun bt254 => ((walk_Step.f k bt254.1 bt254.2 1 1).bind fun bt258 => ((clerestorylaw1_oneP.f).bind fun bt261 => ((walk_Common.f k bt261.1 bt261.2 1 2).bind fun bt265 => (if bt258.1 = 2 then (if bt258.2.1 = true then (if bt258.2.2 = 0 then (if bt265.1 = 1 then (some (bt265.2 == 0)) else (some false)) else (some false)) else (some false)) else (some false)))))
theorem clerestorylaw1_walkBegun.mono : ∀ k, LeO (clerestorylaw1_walkBegun.f k ) (clerestorylaw1_walkBegun.f (k + 1) ) := by
 intro  k
 unfold clerestorylaw1_walkBegun.f
 repeat' first | with_reducible first | apply walk_Common.mono | apply walk_Step.mono | exact LeO.refl _ | exact LeO.none _ | refine LeO.ite ?_ ?_ | refine LeO.bind ?_ (fun _ => ?_) | (first | apply walk_Common.mono | apply walk_Step.mono | exact LeO.none _ | refine LeO.ite ?_ ?_ | refine LeO.bind ?_ (fun _ => ?_))
set_option maxHeartbeats 8000000 in
set_option maxRecDepth 100000 in
theorem clerestorylaw1_walkBegun.calls (k : Nat)  (r : Bool) (w : World) (h : clerestorylaw1_walkBegun.f k  = some r) :
 Calls Tryd.prog 20 #[] w fun e w' => e = .returned (.bool r) ∧ Below w.heap.size w w' := by
 have HB := aS (Below.refl w.heap.size w)
 have H := h; clear h; unfold clerestorylaw1_walkBegun.f at H
 replace H := iB H
 obtain ⟨⟨t254, t257⟩, A1, H⟩ := H
 try dsimp only at H
 replace H := iB H
 obtain ⟨⟨t258, t259, t260⟩, A2, H⟩ := H
 try dsimp only at H
 replace H := iB H
 obtain ⟨⟨t261, t264⟩, A3, H⟩ := H
 try dsimp only at H
 replace H := iB H
 obtain ⟨⟨t265, t266⟩, A4, H⟩ := H
 try dsimp only at H
 refine iE H ?p5 ?n5 <;> clear H
 case' p5 => intro c5b0 c5b1 H; refine iV H ?p6 ?n6 <;> clear H
 case' p6 => intro c6 H; subst c6; refine iE H ?p7 ?n7 <;> clear H
 case' p7 => intro c7b0 c7b1 H; refine iE H ?p8 ?n8 <;> clear H
 case' p8 => intro c8b0 c8b1 H
 case' n8 => intro c8 c8b0 c8b1 H
 case' n7 => intro c7 c7b0 c7b1 H
 case' n6 => intro c6 H; subst c6
 case' n5 => intro c5 c5b0 c5b1 H
 case p8 =>
  obtain rfl := Option.some.inj H
  go_enter Tryd.func20, Tryd.ntmps20
  go_wp2_with (first | ((with_reducible refine q06 (f := 75) rfl ?_); refine q0k (some 7) rfl rfl Tryd.func75 (by kernel_rfl) rfl #[] rfl (by (try simp only [List.map_toArray, List.map_cons, List.map_nil]); first | done | rfl | (simp only [List.length_drop, List.length_take]; rfl)) ?_; (with_reducible refine (clerestorylaw1_oneP.calls  t254 t257 _ A1.out).mono ?_); rintro e w9 ⟨v255, rfl, ho0, hb⟩; refine ⟨_, rfl, ?_⟩; have HO256 := aS (Kd.N_lower (Kd.N_mono (ok' := fun k_ => True) ho0 (fun k_ hk_ => trivial)) (q0g (by repeat (first | (with_reducible first | exact HB.out | apply bA | apply bN | apply bD) | exact HB.out)))); replace HB := aS (q03 (by repeat (first | (with_reducible first | exact HB.out | apply bA | apply bN | apply bD) | exact HB.out)) hb); (try clear hb); (try clear hb2); (try clear hk); (try clear hi); (try clear ho0); obtain ⟨Ao10, co10, eo10⟩ := Kd.N_slice HO256.out; subst eo10) | ((with_reducible refine q06 (f := 16) rfl ?_); refine q0k (some 8) rfl rfl Tryd.func16 (by kernel_rfl) rfl #[.agg #[.slice Ao10 t254.length co10, .bool t257], .int .i64 1, .int .i64 1] rfl (by (try simp only [List.map_toArray, List.map_cons, List.map_nil]); first | done | rfl | (simp only [List.length_drop, List.length_take]; rfl)) ?_; (with_reducible refine (walk_Step.calls k _ _ t254 t257 1 1 t258 true t260 _ ?side1 ?side2 A2.out).mono ?_); (case side1 => repeat (first | exact (Kd.N_reads' HO256.out).2.2 | (with_reducible refine cA ?_ _) | (with_reducible refine cN ?_ _) | (with_reducible refine cD ?_))); (case side2 => exact (Kd.N_reads' HO256.out).2.1); rintro e w11 ⟨rfl, hb⟩; refine ⟨_, rfl, ?_⟩; replace HO256 := aS (Kd.N_below (by (with_reducible repeat (first | apply nA | apply nN | apply nD)); exact HO256.out) hb); replace HB := aS (q03 (by repeat (first | (with_reducible first | exact HB.out | apply bA | apply bN | apply bD) | exact HB.out)) hb); (try clear hb); (try clear hb2); (try clear hk); (try clear hi)) | ((with_reducible refine q06 (f := 75) rfl ?_); refine q0k (some 13) rfl rfl Tryd.func75 (by kernel_rfl) rfl #[] rfl (by (try simp only [List.map_toArray, List.map_cons, List.map_nil]); first | done | rfl | (simp only [List.length_drop, List.length_take]; rfl)) ?_; (with_reducible refine (clerestorylaw1_oneP.calls  t261 t264 _ A3.out).mono ?_); rintro e w12 ⟨v262, rfl, ho0, hb⟩; refine ⟨_, rfl, ?_⟩; have n0_ := aS (Kd.N_elder' (by (with_reducible repeat (first | apply nA | apply nN | apply nD)); exact HO256.out) (Kd.N_base ho0) hb); have n1_ := aS (Kd.N_lower (Kd.N_mono (ok' := fun k_ => some k_ ≠ (.slice Ao10 t254.length co10 : Value).ownBlock) ho0 (fun k_ hk_ => (Kd.fresh' (Kd.N_lt (by (with_reducible repeat (first | apply nA | apply nN | apply nD)); exact HO256.out)) k_ hk_))) (q0g (by repeat (first | (with_reducible first | exact HB.out | apply bA | apply bN | apply bD) | exact HB.out)))); have n2_ := aS (q03 (by repeat (first | (with_reducible first | exact HB.out | apply bA | apply bN | apply bD) | exact HB.out)) hb); clear HO256; clear HB; have HO256 := n0_; have HO263 := n1_; have HB := n2_; clear n0_ n1_ n2_; (try clear hb); (try clear hb2); (try clear hk); (try clear hi); (try clear ho0); obtain ⟨Ao13, co13, eo13⟩ := Kd.N_slice HO263.out; subst eo13) | ((with_reducible refine q06 (f := 23) rfl ?_); refine q0k (some 14) rfl rfl Tryd.func23 (by kernel_rfl) rfl #[.agg #[.slice Ao13 t261.length co13, .bool t264], .int .i64 1, .int .i64 2] rfl (by (try simp only [List.map_toArray, List.map_cons, List.map_nil]); first | done | rfl | (simp only [List.length_drop, List.length_take]; rfl)) ?_; (with_reducible refine (walk_Common.calls k _ _ t261 t264 1 2 t265 t266 _ ?side1 ?side2 A4.out).mono ?_); (case side1 => repeat (first | exact (Kd.N_reads' HO263.out).2.2 | (with_reducible refine cA ?_ _) | (with_reducible refine cN ?_ _) | (with_reducible refine cD ?_))); (case side2 => exact (Kd.N_reads' HO263.out).2.1); rintro e w14 ⟨rfl, hb⟩; refine ⟨_, rfl, ?_⟩; replace HO256 := aS (Kd.N_below (by (with_reducible repeat (first | apply nA | apply nN | apply nD)); exact HO256.out) hb); replace HO263 := aS (Kd.N_below (by (with_reducible repeat (first | apply nA | apply nN | apply nD)); exact HO263.out) hb); replace HB := aS (q03 (by repeat (first | (with_reducible first | exact HB.out | apply bA | apply bN | apply bD) | exact HB.out)) hb); (try clear hb); (try clear hb2); (try clear hk); (try clear hi)))
  go_ret
  exact ⟨by first | rfl | (simp [q02, q01] <;> rfl) | (simp [*, q02, q01] <;> rfl), by repeat (first | (with_reducible first | exact HB.out | apply bA | apply bN | apply bD) | exact HB.out)⟩
 case n8 =>
  obtain rfl := Option.some.inj H
  go_enter Tryd.func20, Tryd.ntmps20
  go_wp2_with (first | ((with_reducible refine q06 (f := 75) rfl ?_); refine q0k (some 7) rfl rfl Tryd.func75 (by kernel_rfl) rfl #[] rfl (by (try simp only [List.map_toArray, List.map_cons, List.map_nil]); first | done | rfl | (simp only [List.length_drop, List.length_take]; rfl)) ?_; (with_reducible refine (clerestorylaw1_oneP.calls  t254 t257 _ A1.out).mono ?_); rintro e w15 ⟨v255, rfl, ho0, hb⟩; refine ⟨_, rfl, ?_⟩; have HO256 := aS (Kd.N_lower (Kd.N_mono (ok' := fun k_ => True) ho0 (fun k_ hk_ => trivial)) (q0g (by repeat (first | (with_reducible first | exact HB.out | apply bA | apply bN | apply bD) | exact HB.out)))); replace HB := aS (q03 (by repeat (first | (with_reducible first | exact HB.out | apply bA | apply bN | apply bD) | exact HB.out)) hb); (try clear hb); (try clear hb2); (try clear hk); (try clear hi); (try clear ho0); obtain ⟨Ao16, co16, eo16⟩ := Kd.N_slice HO256.out; subst eo16) | ((with_reducible refine q06 (f := 16) rfl ?_); refine q0k (some 8) rfl rfl Tryd.func16 (by kernel_rfl) rfl #[.agg #[.slice Ao16 t254.length co16, .bool t257], .int .i64 1, .int .i64 1] rfl (by (try simp only [List.map_toArray, List.map_cons, List.map_nil]); first | done | rfl | (simp only [List.length_drop, List.length_take]; rfl)) ?_; (with_reducible refine (walk_Step.calls k _ _ t254 t257 1 1 t258 true t260 _ ?side1 ?side2 A2.out).mono ?_); (case side1 => repeat (first | exact (Kd.N_reads' HO256.out).2.2 | (with_reducible refine cA ?_ _) | (with_reducible refine cN ?_ _) | (with_reducible refine cD ?_))); (case side2 => exact (Kd.N_reads' HO256.out).2.1); rintro e w17 ⟨rfl, hb⟩; refine ⟨_, rfl, ?_⟩; replace HO256 := aS (Kd.N_below (by (with_reducible repeat (first | apply nA | apply nN | apply nD)); exact HO256.out) hb); replace HB := aS (q03 (by repeat (first | (with_reducible first | exact HB.out | apply bA | apply bN | apply bD) | exact HB.out)) hb); (try clear hb); (try clear hb2); (try clear hk); (try clear hi)) | ((with_reducible refine q06 (f := 75) rfl ?_); refine q0k (some 13) rfl rfl Tryd.func75 (by kernel_rfl) rfl #[] rfl (by (try simp only [List.map_toArray, List.map_cons, List.map_nil]); first | done | rfl | (simp only [List.length_drop, List.length_take]; rfl)) ?_; (with_reducible refine (clerestorylaw1_oneP.calls  t261 t264 _ A3.out).mono ?_); rintro e w18 ⟨v262, rfl, ho0, hb⟩; refine ⟨_, rfl, ?_⟩; have n0_ := aS (Kd.N_elder' (by (with_reducible repeat (first | apply nA | apply nN | apply nD)); exact HO256.out) (Kd.N_base ho0) hb); have n1_ := aS (Kd.N_lower (Kd.N_mono (ok' := fun k_ => some k_ ≠ (.slice Ao16 t254.length co16 : Value).ownBlock) ho0 (fun k_ hk_ => (Kd.fresh' (Kd.N_lt (by (with_reducible repeat (first | apply nA | apply nN | apply nD)); exact HO256.out)) k_ hk_))) (q0g (by repeat (first | (with_reducible first | exact HB.out | apply bA | apply bN | apply bD) | exact HB.out)))); have n2_ := aS (q03 (by repeat (first | (with_reducible first | exact HB.out | apply bA | apply bN | apply bD) | exact HB.out)) hb); clear HO256; clear HB; have HO256 := n0_; have HO263 := n1_; have HB := n2_; clear n0_ n1_ n2_; (try clear hb); (try clear hb2); (try clear hk); (try clear hi); (try clear ho0); obtain ⟨Ao19, co19, eo19⟩ := Kd.N_slice HO263.out; subst eo19) | ((with_reducible refine q06 (f := 23) rfl ?_); refine q0k (some 14) rfl rfl Tryd.func23 (by kernel_rfl) rfl #[.agg #[.slice Ao19 t261.length co19, .bool t264], .int .i64 1, .int .i64 2] rfl (by (try simp only [List.map_toArray, List.map_cons, List.map_nil]); first | done | rfl | (simp only [List.length_drop, List.length_take]; rfl)) ?_; (with_reducible refine (walk_Common.calls k _ _ t261 t264 1 2 t265 t266 _ ?side1 ?side2 A4.out).mono ?_); (case side1 => repeat (first | exact (Kd.N_reads' HO263.out).2.2 | (with_reducible refine cA ?_ _) | (with_reducible refine cN ?_ _) | (with_reducible refine cD ?_))); (case side2 => exact (Kd.N_reads' HO263.out).2.1); rintro e w20 ⟨rfl, hb⟩; refine ⟨_, rfl, ?_⟩; replace HO256 := aS (Kd.N_below (by (with_reducible repeat (first | apply nA | apply nN | apply nD)); exact HO256.out) hb); replace HO263 := aS (Kd.N_below (by (with_reducible repeat (first | apply nA | apply nN | apply nD)); exact HO263.out) hb); replace HB := aS (q03 (by repeat (first | (with_reducible first | exact HB.out | apply bA | apply bN | apply bD) | exact HB.out)) hb); (try clear hb); (try clear hb2); (try clear hk); (try clear hi)))
  go_ret
  exact ⟨by first | rfl | (simp [q02, q01] <;> rfl) | (simp [*, q02, q01] <;> rfl), by repeat (first | (with_reducible first | exact HB.out | apply bA | apply bN | apply bD) | exact HB.out)⟩
 case n7 =>
  obtain rfl := Option.some.inj H
  go_enter Tryd.func20, Tryd.ntmps20
  go_wp2_with (first | ((with_reducible refine q06 (f := 75) rfl ?_); refine q0k (some 7) rfl rfl Tryd.func75 (by kernel_rfl) rfl #[] rfl (by (try simp only [List.map_toArray, List.map_cons, List.map_nil]); first | done | rfl | (simp only [List.length_drop, List.length_take]; rfl)) ?_; (with_reducible refine (clerestorylaw1_oneP.calls  t254 t257 _ A1.out).mono ?_); rintro e w21 ⟨v255, rfl, ho0, hb⟩; refine ⟨_, rfl, ?_⟩; have HO256 := aS (Kd.N_lower (Kd.N_mono (ok' := fun k_ => True) ho0 (fun k_ hk_ => trivial)) (q0g (by repeat (first | (with_reducible first | exact HB.out | apply bA | apply bN | apply bD) | exact HB.out)))); replace HB := aS (q03 (by repeat (first | (with_reducible first | exact HB.out | apply bA | apply bN | apply bD) | exact HB.out)) hb); (try clear hb); (try clear hb2); (try clear hk); (try clear hi); (try clear ho0); obtain ⟨Ao22, co22, eo22⟩ := Kd.N_slice HO256.out; subst eo22) | ((with_reducible refine q06 (f := 16) rfl ?_); refine q0k (some 8) rfl rfl Tryd.func16 (by kernel_rfl) rfl #[.agg #[.slice Ao22 t254.length co22, .bool t257], .int .i64 1, .int .i64 1] rfl (by (try simp only [List.map_toArray, List.map_cons, List.map_nil]); first | done | rfl | (simp only [List.length_drop, List.length_take]; rfl)) ?_; (with_reducible refine (walk_Step.calls k _ _ t254 t257 1 1 t258 true t260 _ ?side1 ?side2 A2.out).mono ?_); (case side1 => repeat (first | exact (Kd.N_reads' HO256.out).2.2 | (with_reducible refine cA ?_ _) | (with_reducible refine cN ?_ _) | (with_reducible refine cD ?_))); (case side2 => exact (Kd.N_reads' HO256.out).2.1); rintro e w23 ⟨rfl, hb⟩; refine ⟨_, rfl, ?_⟩; replace HO256 := aS (Kd.N_below (by (with_reducible repeat (first | apply nA | apply nN | apply nD)); exact HO256.out) hb); replace HB := aS (q03 (by repeat (first | (with_reducible first | exact HB.out | apply bA | apply bN | apply bD) | exact HB.out)) hb); (try clear hb); (try clear hb2); (try clear hk); (try clear hi)) | ((with_reducible refine q06 (f := 75) rfl ?_); refine q0k (some 13) rfl rfl Tryd.func75 (by kernel_rfl) rfl #[] rfl (by (try simp only [List.map_toArray, List.map_cons, List.map_nil]); first | done | rfl | (simp only [List.length_drop, List.length_take]; rfl)) ?_; (with_reducible refine (clerestorylaw1_oneP.calls  t261 t264 _ A3.out).mono ?_); rintro e w24 ⟨v262, rfl, ho0, hb⟩; refine ⟨_, rfl, ?_⟩; have n0_ := aS (Kd.N_elder' (by (with_reducible repeat (first | apply nA | apply nN | apply nD)); exact HO256.out) (Kd.N_base ho0) hb); have n1_ := aS (Kd.N_lower (Kd.N_mono (ok' := fun k_ => some k_ ≠ (.slice Ao22 t254.length co22 : Value).ownBlock) ho0 (fun k_ hk_ => (Kd.fresh' (Kd.N_lt (by (with_reducible repeat (first | apply nA | apply nN | apply nD)); exact HO256.out)) k_ hk_))) (q0g (by repeat (first | (with_reducible first | exact HB.out | apply bA | apply bN | apply bD) | exact HB.out)))); have n2_ := aS (q03 (by repeat (first | (with_reducible first | exact HB.out | apply bA | apply bN | apply bD) | exact HB.out)) hb); clear HO256; clear HB; have HO256 := n0_; have HO263 := n1_; have HB := n2_; clear n0_ n1_ n2_; (try clear hb); (try clear hb2); (try clear hk); (try clear hi); (try clear ho0); obtain ⟨Ao25, co25, eo25⟩ := Kd.N_slice HO263.out; subst eo25) | ((with_reducible refine q06 (f := 23) rfl ?_); refine q0k (some 14) rfl rfl Tryd.func23 (by kernel_rfl) rfl #[.agg #[.slice Ao25 t261.length co25, .bool t264], .int .i64 1, .int .i64 2] rfl (by (try simp only [List.map_toArray, List.map_cons, List.map_nil]); first | done | rfl | (simp only [List.length_drop, List.length_take]; rfl)) ?_; (with_reducible refine (walk_Common.calls k _ _ t261 t264 1 2 t265 t266 _ ?side1 ?side2 A4.out).mono ?_); (case side1 => repeat (first | exact (Kd.N_reads' HO263.out).2.2 | (with_reducible refine cA ?_ _) | (with_reducible refine cN ?_ _) | (with_reducible refine cD ?_))); (case side2 => exact (Kd.N_reads' HO263.out).2.1); rintro e w26 ⟨rfl, hb⟩; refine ⟨_, rfl, ?_⟩; replace HO256 := aS (Kd.N_below (by (with_reducible repeat (first | apply nA | apply nN | apply nD)); exact HO256.out) hb); replace HO263 := aS (Kd.N_below (by (with_reducible repeat (first | apply nA | apply nN | apply nD)); exact HO263.out) hb); replace HB := aS (q03 (by repeat (first | (with_reducible first | exact HB.out | apply bA | apply bN | apply bD) | exact HB.out)) hb); (try clear hb); (try clear hb2); (try clear hk); (try clear hi)))
  go_ret
  exact ⟨by first | rfl | (simp [q02, q01] <;> rfl) | (simp [*, q02, q01] <;> rfl), by repeat (first | (with_reducible first | exact HB.out | apply bA | apply bN | apply bD) | exact HB.out)⟩
 case n6 =>
  obtain rfl := Option.some.inj H
  go_enter Tryd.func20, Tryd.ntmps20
  go_wp2_with (first | ((with_reducible refine q06 (f := 75) rfl ?_); refine q0k (some 7) rfl rfl Tryd.func75 (by kernel_rfl) rfl #[] rfl (by (try simp only [List.map_toArray, List.map_cons, List.map_nil]); first | done | rfl | (simp only [List.length_drop, List.length_take]; rfl)) ?_; (with_reducible refine (clerestorylaw1_oneP.calls  t254 t257 _ A1.out).mono ?_); rintro e w27 ⟨v255, rfl, ho0, hb⟩; refine ⟨_, rfl, ?_⟩; have HO256 := aS (Kd.N_lower (Kd.N_mono (ok' := fun k_ => True) ho0 (fun k_ hk_ => trivial)) (q0g (by repeat (first | (with_reducible first | exact HB.out | apply bA | apply bN | apply bD) | exact HB.out)))); replace HB := aS (q03 (by repeat (first | (with_reducible first | exact HB.out | apply bA | apply bN | apply bD) | exact HB.out)) hb); (try clear hb); (try clear hb2); (try clear hk); (try clear hi); (try clear ho0); obtain ⟨Ao28, co28, eo28⟩ := Kd.N_slice HO256.out; subst eo28) | ((with_reducible refine q06 (f := 16) rfl ?_); refine q0k (some 8) rfl rfl Tryd.func16 (by kernel_rfl) rfl #[.agg #[.slice Ao28 t254.length co28, .bool t257], .int .i64 1, .int .i64 1] rfl (by (try simp only [List.map_toArray, List.map_cons, List.map_nil]); first | done | rfl | (simp only [List.length_drop, List.length_take]; rfl)) ?_; (with_reducible refine (walk_Step.calls k _ _ t254 t257 1 1 t258 false t260 _ ?side1 ?side2 A2.out).mono ?_); (case side1 => repeat (first | exact (Kd.N_reads' HO256.out).2.2 | (with_reducible refine cA ?_ _) | (with_reducible refine cN ?_ _) | (with_reducible refine cD ?_))); (case side2 => exact (Kd.N_reads' HO256.out).2.1); rintro e w29 ⟨rfl, hb⟩; refine ⟨_, rfl, ?_⟩; replace HO256 := aS (Kd.N_below (by (with_reducible repeat (first | apply nA | apply nN | apply nD)); exact HO256.out) hb); replace HB := aS (q03 (by repeat (first | (with_reducible first | exact HB.out | apply bA | apply bN | apply bD) | exact HB.out)) hb); (try clear hb); (try clear hb2); (try clear hk); (try clear hi)) | ((with_reducible refine q06 (f := 75) rfl ?_); refine q0k (some 13) rfl rfl Tryd.func75 (by kernel_rfl) rfl #[] rfl (by (try simp only [List.map_toArray, List.map_cons, List.map_nil]); first | done | rfl | (simp only [List.length_drop, List.length_take]; rfl)) ?_; (with_reducible refine (clerestorylaw1_oneP.calls  t261 t264 _ A3.out).mono ?_); rintro e w30 ⟨v262, rfl, ho0, hb⟩; refine ⟨_, rfl, ?_⟩; have n0_ := aS (Kd.N_elder' (by (with_reducible repeat (first | apply nA | apply nN | apply nD)); exact HO256.out) (Kd.N_base ho0) hb); have n1_ := aS (Kd.N_lower (Kd.N_mono (ok' := fun k_ => some k_ ≠ (.slice Ao28 t254.length co28 : Value).ownBlock) ho0 (fun k_ hk_ => (Kd.fresh' (Kd.N_lt (by (with_reducible repeat (first | apply nA | apply nN | apply nD)); exact HO256.out)) k_ hk_))) (q0g (by repeat (first | (with_reducible first | exact HB.out | apply bA | apply bN | apply bD) | exact HB.out)))); have n2_ := aS (q03 (by repeat (first | (with_reducible first | exact HB.out | apply bA | apply bN | apply bD) | exact HB.out)) hb); clear HO256; clear HB; have HO256 := n0_; have HO263 := n1_; have HB := n2_; clear n0_ n1_ n2_; (try clear hb); (try clear hb2); (try clear hk); (try clear hi); (try clear ho0); obtain ⟨Ao31, co31, eo31⟩ := Kd.N_slice HO263.out; subst eo31) | ((with_reducible refine q06 (f := 23) rfl ?_); refine q0k (some 14) rfl rfl Tryd.func23 (by kernel_rfl) rfl #[.agg #[.slice Ao31 t261.length co31, .bool t264], .int .i64 1, .int .i64 2] rfl (by (try simp only [List.map_toArray, List.map_cons, List.map_nil]); first | done | rfl | (simp only [List.length_drop, List.length_take]; rfl)) ?_; (with_reducible refine (walk_Common.calls k _ _ t261 t264 1 2 t265 t266 _ ?side1 ?side2 A4.out).mono ?_); (case side1 => repeat (first | exact (Kd.N_reads' HO263.out).2.2 | (with_reducible refine cA ?_ _) | (with_reducible refine cN ?_ _) | (with_reducible refine cD ?_))); (case side2 => exact (Kd.N_reads' HO263.out).2.1); rintro e w32 ⟨rfl, hb⟩; refine ⟨_, rfl, ?_⟩; replace HO256 := aS (Kd.N_below (by (with_reducible repeat (first | apply nA | apply nN | apply nD)); exact HO256.out) hb); replace HO263 := aS (Kd.N_below (by (with_reducible repeat (first | apply nA | apply nN | apply nD)); exact HO263.out) hb); replace HB := aS (q03 (by repeat (first | (with_reducible first | exact HB.out | apply bA | apply bN | apply bD) | exact HB.out)) hb); (try clear hb); (try clear hb2); (try clear hk); (try clear hi)))
  go_ret
  exact ⟨by first | rfl | (simp [q02, q01] <;> rfl) | (simp [*, q02, q01] <;> rfl), by repeat (first | (with_reducible first | exact HB.out | apply bA | apply bN | apply bD) | exact HB.out)⟩
 case n5 =>
  obtain rfl := Option.some.inj H
  go_enter Tryd.func20, Tryd.ntmps20
  go_wp2_with (first | ((with_reducible refine q06 (f := 75) rfl ?_); refine q0k (some 7) rfl rfl Tryd.func75 (by kernel_rfl) rfl #[] rfl (by (try simp only [List.map_toArray, List.map_cons, List.map_nil]); first | done | rfl | (simp only [List.length_drop, List.length_take]; rfl)) ?_; (with_reducible refine (clerestorylaw1_oneP.calls  t254 t257 _ A1.out).mono ?_); rintro e w33 ⟨v255, rfl, ho0, hb⟩; refine ⟨_, rfl, ?_⟩; have HO256 := aS (Kd.N_lower (Kd.N_mono (ok' := fun k_ => True) ho0 (fun k_ hk_ => trivial)) (q0g (by repeat (first | (with_reducible first | exact HB.out | apply bA | apply bN | apply bD) | exact HB.out)))); replace HB := aS (q03 (by repeat (first | (with_reducible first | exact HB.out | apply bA | apply bN | apply bD) | exact HB.out)) hb); (try clear hb); (try clear hb2); (try clear hk); (try clear hi); (try clear ho0); obtain ⟨Ao34, co34, eo34⟩ := Kd.N_slice HO256.out; subst eo34) | ((with_reducible refine q06 (f := 16) rfl ?_); refine q0k (some 8) rfl rfl Tryd.func16 (by kernel_rfl) rfl #[.agg #[.slice Ao34 t254.length co34, .bool t257], .int .i64 1, .int .i64 1] rfl (by (try simp only [List.map_toArray, List.map_cons, List.map_nil]); first | done | rfl | (simp only [List.length_drop, List.length_take]; rfl)) ?_; (with_reducible refine (walk_Step.calls k _ _ t254 t257 1 1 t258 t259 t260 _ ?side1 ?side2 A2.out).mono ?_); (case side1 => repeat (first | exact (Kd.N_reads' HO256.out).2.2 | (with_reducible refine cA ?_ _) | (with_reducible refine cN ?_ _) | (with_reducible refine cD ?_))); (case side2 => exact (Kd.N_reads' HO256.out).2.1); rintro e w35 ⟨rfl, hb⟩; refine ⟨_, rfl, ?_⟩; replace HO256 := aS (Kd.N_below (by (with_reducible repeat (first | apply nA | apply nN | apply nD)); exact HO256.out) hb); replace HB := aS (q03 (by repeat (first | (with_reducible first | exact HB.out | apply bA | apply bN | apply bD) | exact HB.out)) hb); (try clear hb); (try clear hb2); (try clear hk); (try clear hi)) | ((with_reducible refine q06 (f := 75) rfl ?_); refine q0k (some 13) rfl rfl Tryd.func75 (by kernel_rfl) rfl #[] rfl (by (try simp only [List.map_toArray, List.map_cons, List.map_nil]); first | done | rfl | (simp only [List.length_drop, List.length_take]; rfl)) ?_; (with_reducible refine (clerestorylaw1_oneP.calls  t261 t264 _ A3.out).mono ?_); rintro e w36 ⟨v262, rfl, ho0, hb⟩; refine ⟨_, rfl, ?_⟩; have n0_ := aS (Kd.N_elder' (by (with_reducible repeat (first | apply nA | apply nN | apply nD)); exact HO256.out) (Kd.N_base ho0) hb); have n1_ := aS (Kd.N_lower (Kd.N_mono (ok' := fun k_ => some k_ ≠ (.slice Ao34 t254.length co34 : Value).ownBlock) ho0 (fun k_ hk_ => (Kd.fresh' (Kd.N_lt (by (with_reducible repeat (first | apply nA | apply nN | apply nD)); exact HO256.out)) k_ hk_))) (q0g (by repeat (first | (with_reducible first | exact HB.out | apply bA | apply bN | apply bD) | exact HB.out)))); have n2_ := aS (q03 (by repeat (first | (with_reducible first | exact HB.out | apply bA | apply bN | apply bD) | exact HB.out)) hb); clear HO256; clear HB; have HO256 := n0_; have HO263 := n1_; have HB := n2_; clear n0_ n1_ n2_; (try clear hb); (try clear hb2); (try clear hk); (try clear hi); (try clear ho0); obtain ⟨Ao37, co37, eo37⟩ := Kd.N_slice HO263.out; subst eo37) | ((with_reducible refine q06 (f := 23) rfl ?_); refine q0k (some 14) rfl rfl Tryd.func23 (by kernel_rfl) rfl #[.agg #[.slice Ao37 t261.length co37, .bool t264], .int .i64 1, .int .i64 2] rfl (by (try simp only [List.map_toArray, List.map_cons, List.map_nil]); first | done | rfl | (simp only [List.length_drop, List.length_take]; rfl)) ?_; (with_reducible refine (walk_Common.calls k _ _ t261 t264 1 2 t265 t266 _ ?side1 ?side2 A4.out).mono ?_); (case side1 => repeat (first | exact (Kd.N_reads' HO263.out).2.2 | (with_reducible refine cA ?_ _) | (with_reducible refine cN ?_ _) | (with_reducible refine cD ?_))); (case side2 => exact (Kd.N_reads' HO263.out).2.1); rintro e w38 ⟨rfl, hb⟩; refine ⟨_, rfl, ?_⟩; replace HO256 := aS (Kd.N_below (by (with_reducible repeat (first | apply nA | apply nN | apply nD)); exact HO256.out) hb); replace HO263 := aS (Kd.N_below (by (with_reducible repeat (first | apply nA | apply nN | apply nD)); exact HO263.out) hb); replace HB := aS (q03 (by repeat (first | (with_reducible first | exact HB.out | apply bA | apply bN | apply bD) | exact HB.out)) hb); (try clear hb); (try clear hb2); (try clear hk); (try clear hi)))
  go_ret
  exact ⟨by first | rfl | (simp [q02, q01] <;> rfl) | (simp [*, q02, q01] <;> rfl), by repeat (first | (with_reducible first | exact HB.out | apply bA | apply bN | apply bD) | exact HB.out)⟩
def walk_Before.f (k : Nat) (l0 : List S43) (a1 : Bool) (a b : Int) : Option (Bool × Int) :=
 (walk_check.f k l0 a1 [a, b]).bind fun e => if e = 0 then (walk_walker_path.f k l0 a1 a).bind fun p => (walk_walker_path.f k l0 a1 b).bind fun q =>
  if p.2 = a1 ∧ q.2 = a1 ∧ p.1.length ≤ 4611686018427387904 ∧ q.1.length ≤ 4611686018427387904 then
   (if cpre p.1 q.1 < p.1.length ∧ cpre p.1 q.1 < q.1.length then
    (if 1 ≤ cpre p.1 q.1 ∧ 0 ≤ rd p.1 ((cpre p.1 q.1 - 1 : Nat) : Int) ∧ rd p.1 ((cpre p.1 q.1 - 1 : Nat) : Int) < (l0.length : Int) then
     (slices_Index_int_int.f k (q00 l0 (rd p.1 ((cpre p.1 q.1 - 1 : Nat) : Int))).f5 (rd p.1 (cpre p.1 q.1 : Int))).bind fun x =>
     (slices_Index_int_int.f k (q00 l0 (rd p.1 ((cpre p.1 q.1 - 1 : Nat) : Int))).f5 (rd q.1 (cpre p.1 q.1 : Int))).bind fun y => some (decide (x < y), 0)
    else none)
   else some (decide ((p.1.length : Int) < (q.1.length : Int)), 0))
  else none else some (false, e)
set_option maxHeartbeats 8000000 in
set_option maxRecDepth 100000 in
theorem walk_Before.calls (k : Nat) (A0 : Option Addr) (c0 : Nat) (l0 : List S43) (a1 : Bool) (a b : Int) (r1 : Bool) (r2 : Int) (w : World) (hr0 : Kd.C k43 w A0 l0.length l0) (hc0 : l0.length ≤ c0) (h : walk_Before.f k l0 a1 a b = some (r1, r2)) :
 Calls Tryd.prog 21 #[.agg #[.slice A0 l0.length c0, .bool a1], .int .i64 a, .int .i64 b] w fun e w' => e = .returned (.tuple #[.bool r1, .int .i64 r2]) ∧ Below w.heap.size w w' := by
 have hu24 := Tryd.underlying24
 unfold walk_Before.f at h
 obtain ⟨ly, hly⟩ : ∃ ly : List Int, ly = [a, b] := ⟨_, rfl⟩
 rw [← hly] at h
 have HLL : Aside0 (ly.length ≤ 4611686018427387904) := ⟨by rw [hly]; simp⟩
 have HLY := aS hly
 clear hly
 obtain ⟨e0, he0, h⟩ := Option.bind_eq_some_iff.1 h
 have HE := aS he0
 have HR := aS hr0
 have HC := aS hc0
 have HB := aS (Below.refl w.heap.size w)
 clear he0 hr0 hc0
 by_cases z0 : e0 = 0
 ·subst z0
  rw [if_pos rfl] at h
  obtain ⟨⟨p, p2⟩, hp, h⟩ := Option.bind_eq_some_iff.1 h
  obtain ⟨⟨q, q2⟩, hq, h⟩ := Option.bind_eq_some_iff.1 h
  refine iGp h ?_
  clear h
  intro ⟨e1, e2, hc1, hc2⟩ h
  try dsimp only at e1 e2 hc1 hc2 h
  rw [e1] at hp
  rw [e2] at hq
  have HP := aS hp
  have HQ := aS hq
  have HL1 := aS hc1
  have HL2 := aS hc2
  have H := aS h
  clear hp hq e1 e2 hc1 hc2 h
  by_cases cq : q.length < p.length
  case' pos => have cqb : decide ((q.length : Int) < (p.length : Int)) = true := decide_eq_true (by omega); have cqT : ((q.length : Int) < (p.length : Int)) = True := eq_true (by omega)
  case' neg => have cqb : decide ((q.length : Int) < (p.length : Int)) = false := decide_eq_false (by omega); have cqT : ((q.length : Int) < (p.length : Int)) = False := eq_false (by omega)
  all_goals
   have CQ := aS cq
   clear cq
   go_enter Tryd.func21, Tryd.ntmps21
   go_wp2_with (first | ((with_reducible refine q0c (N := 3) rfl ?_); refine box0 rfl (N := 3) rfl (cs := #[.slice A0 l0.length c0, .bool a1]) (t := 24) (by first | (go_simp; done) | (go_simp; rfl)) (by repeat (first | exact HB.out | apply bA | apply bN | apply bD)) ?_; clear HB; intro gb wb BK GB HB; obtain ⟨hcz0, hcz1, -, -⟩ := bk2 BK.out) | ((with_reducible refine q0c (N := 18) rfl ?_); refine Kd.R_lit (Kd.int .i64) _ 3 ?hg (N := 18) ?hd (xs := ([a, b] : List Int)) (inner := [.int .i64 a, .int .i64 b]) (ok := fun _ => True) (okp := fun _ => True) ?hr ?hp (fun _ hk => hk) trivial (Below.refl _ _) (Nat.le_refl _) (by simp) ?_; (case hd => rfl); (case hg => rfl); (case hr => first | (go_simp; done) | (go_simp; rfl)); (case hp => exact (Reps.one (show Kd.M (Kd.int .i64) _ _ _ a [.int .i64 a] from rfl) (Reps.one (show Kd.M (Kd.int .i64) _ _ _ b [.int .i64 b] from rfl) (Reps.none _ _)))); intro vl wl hol hb hg_ hnew_; clear hg_ hnew_; (first | rw [← HLY.out] at hol | (simp only [Int.reduceToNat] at hol; rw [← HLY.out] at hol)); obtain ⟨Al, cl, el⟩ := Kd.R_slice hol; subst el; have n0_ := aS (q03 (by repeat (first | exact HB.out | apply bA | apply bN | apply bD)) hb); clear HB; have HB := n0_; clear n0_; have HRl := aS (Kd.R_reads' hol).2.2; have HCl := aS (Kd.R_reads' hol).2.1; clear hol; have BKn := aS (walk_check.blk BK.out hb); clear BK; have BK := BKn; clear BKn; clear hcz0 hcz1; obtain ⟨hcz0, hcz1, -, -⟩ := bk2 BK.out; clear hb) | (go_at_call 70; (with_reducible refine (walk_check.calls0 k A0 c0 l0 a1 Al cl ly _ (Kd.C_below HR.out (by repeat (first | exact HB.out | apply bA | apply bN | apply bD))) HC.out (by repeat (first | (with_reducible exact HRl.out) | (with_reducible refine Kd.C_drewN ?_ _) | (with_reducible refine Kd.C_drew ?_) | (with_reducible refine Kd.C_alloc ?_ _))) HCl.out HLL.out HE.out).mono ?_); rintro e w2 ⟨hb, g2, rfl, hI⟩; have n0_ := aS (q03 (by repeat (first | exact HB.out | apply bA | apply bN | apply bD)) hb); obtain ⟨w0g2, hI, hIB, hIW⟩ : ∃ w0, q04 w0 w2 g2 l0 a1 ∧ Below w0.heap.size w0 w2 ∧ Below w.heap.size w w0 := ⟨_, hI, hb, (by repeat (first | exact HB.out | apply bA | apply bN | apply bD))⟩; clear HB; have HB := n0_; clear n0_; have HI := aS hI; have HIB := aS hIB; have HIW := aS hIW; clear hI hIB hIW; have BKn := aS (walk_check.blk BK.out hb); clear BK; have BK := BKn; clear BKn; clear hcz0 hcz1; obtain ⟨hcz0, hcz1, -, -⟩ := bk2 BK.out; clear hb) | (go_at_call 76; have h_ := HKP.out; clear h_; (with_reducible refine (walk_walker_path.calls k g2 l0 a1 b q a1 w0g2 _ (by repeat (first | (with_reducible exact HI.out) | (with_reducible apply q04.alloc) | (with_reducible apply q04.drewN) | (with_reducible apply q04.drew))) (by repeat (first | exact HIB.out | apply bA | apply bN | apply bD)) HQ.out).mono ?_); rintro e wq ⟨vq, rfl, ho, hI9, hb9, hk9⟩; obtain ⟨Aq, cq, eo⟩ := Kd.R_slice ho; subst eo; have HNQ : Aside0 (∀ ad, Aq = some ad → ad.block ≠ g2) := ⟨fun ad e_ => by subst e_; exact ne_own hI9 ho⟩; have HCQ := aS (Kd.R_reads' ho).2.2; have HLQ := aS (Kd.R_reads' ho).2.1; have hkp := (show q07 wp _ g2 none from (by repeat (first | exact HKP.out | apply q0a | apply q0h | apply q0b))).trans hk9 (.inl rfl); clear HKP; have HKP := aS hkp; clear hkp; have HKQ := aS (q07.refl wq g2 none); clear HB HI HIB ho hk9; have HI := aS hI9; have HIB := aS hb9; have HB := aS (q03 HIW.out hb9); clear hI9 hb9) | (go_at_call 76; (with_reducible refine (walk_walker_path.calls k g2 l0 a1 a p a1 w0g2 _ (by repeat (first | (with_reducible exact HI.out) | (with_reducible apply q04.alloc) | (with_reducible apply q04.drewN) | (with_reducible apply q04.drew))) (by repeat (first | exact HIB.out | apply bA | apply bN | apply bD)) HP.out).mono ?_); rintro e wp ⟨vp, rfl, ho, hI9, hb9, hk9⟩; obtain ⟨Ap, cp, eo⟩ := Kd.R_slice ho; subst eo; have HNP : Aside0 (∀ ad, Ap = some ad → ad.block ≠ g2) := ⟨fun ad e_ => by subst e_; exact ne_own hI9 ho⟩; have HCP := aS (Kd.R_reads' ho).2.2; have HLP := aS (Kd.R_reads' ho).2.1; have HKP := aS (q07.refl wp g2 none); clear HB HI HIB ho hk9; have HI := aS hI9; have HIB := aS hb9; have HB := aS (q03 HIW.out hb9); clear hI9 hb9))
   go_loopw [36] (fun v W => ∃ i : Nat, v = .int .i64 (i : Int) ∧ Aside0 (i + cpre (p.drop i) (q.drop i) = cpre p q) ∧ Aside0 (q07 wp W g2 none) ∧ Aside0 (q07 wq W g2 none) ∧ Aside0 (q04 w0g2 W g2 l0 a1) ∧ Aside0 (Below w0g2.heap.size w0g2 W) ∧ Aside0 (Below w.heap.size w W)) (fun v _ => walk_check.left p v)
   case atStart => exact ⟨0, rfl, ⟨by simp⟩, ⟨(by repeat (first | exact HKP.out | exact q07.refl _ _ _ | apply q0a | apply q0h | apply q0b))⟩, ⟨(by repeat (first | exact HKQ.out | exact q07.refl _ _ _ | apply q0a | apply q0h | apply q0b))⟩, ⟨by repeat (first | exact HI.out | apply q04.alloc | apply q04.drewN | apply q04.drew)⟩, ⟨(by repeat (first | exact HIB.out | apply bA | apply bN | apply bD))⟩, ⟨(by repeat (first | exact HB.out | apply bA | apply bN | apply bD))⟩⟩
   case round =>
    clear HB HI HIB
    obtain ⟨i, rfl, HI2, HK1, HK2, HI, HIB, HB⟩ := hrel
    have hle := cpre_le p q
    have hi := HI2.out
    by_cases ci : i < min p.length q.length
    ·have cip : i < p.length := by omega
     have ciq : i < q.length := by omega
     have cib : decide ((i : Int) < (p.length : Int)) = true := decide_eq_true (by omega)
     have cib2 : decide ((i : Int) < (q.length : Int)) = true := decide_eq_true (by omega)
     have cib3 : decide (i < p.length) = true := decide_eq_true cip
     have cib4 : decide (i < q.length) = true := decide_eq_true ciq
     obtain ⟨ad1, e1, hx, p1, q1⟩ := atIA HCP.out (i : Int) (decide_eq_true (by omega)) (decide_eq_true (by omega))
     obtain ⟨ad2, e2, hy, p2, q2⟩ := atIA HCQ.out (i : Int) (decide_eq_true (by omega)) (decide_eq_true (by omega))
     subst e1 e2
     replace hx := q1p HK1.out hx (by rw [q0n]; exact HNP.out _ rfl)
     replace hy := q1p HK2.out hy (by rw [q0n]; exact HNQ.out _ rfl)
     rw [show ((i : Int)).toNat = i from rfl] at hx hy
     rw [walk_check.dropL p i cip, walk_check.dropL q i ciq, cpre] at hi
     by_cases ce : rd p (i : Int) = rd q (i : Int)
     ·rw [if_pos ce] at hi
      have ceb : (rd p (i : Int) == rd q (i : Int)) = true := beq_iff_eq.mpr ce
      have cec : (rd p (i : Int) != rd q (i : Int)) = false := bne_eq_false_iff_eq.mpr ce
      have hw : wrap64 ((i : Int) + 1) = ((i + 1 : Nat) : Int) := by have := HL1.out; unfold wrap64; omega
      have HI3 : Aside0 (i + 1 + cpre (p.drop (i + 1)) (q.drop (i + 1)) = cpre p q) := ⟨by omega⟩
      have CI := aS cip
      clear hi ci cip ciq ce hle HI2
      go_wp2
      repeat (go_quiet (fail); try go_wp2)
      go_roundw
      case rel => exact ⟨i + 1, by first | rfl | simp [hw], HI3, ⟨(by repeat (first | exact HK1.out | exact q07.refl _ _ _ | apply q0a | apply q0h | apply q0b))⟩, ⟨(by repeat (first | exact HK2.out | exact q07.refl _ _ _ | apply q0a | apply q0h | apply q0b))⟩, ⟨by repeat (first | exact HI.out | apply q04.alloc | apply q04.drewN | apply q04.drew)⟩, ⟨(by repeat (first | exact HIB.out | apply bA | apply bN | apply bD))⟩, ⟨(by repeat (first | exact HB.out | apply bA | apply bN | apply bD))⟩⟩
      case measure => have := CI.out; simp [walk_check.left, hw]; omega
     ·rw [if_neg ce] at hi
      have ceb : (rd p (i : Int) == rd q (i : Int)) = false := beq_eq_false_iff_ne.mpr ce
      have cec : (rd p (i : Int) != rd q (i : Int)) = true := bne_iff_ne.mpr ce
      obtain rfl : i = cpre p q := by omega
      have h := H.out
      try dsimp only at h
      rw [if_pos ⟨cip, ciq⟩] at h
      refine iGp h ?_
      clear h
      intro ⟨g1, g3, g4⟩ h
      obtain ⟨x, hxx, h⟩ := Option.bind_eq_some_iff.1 h
      obtain ⟨y, hyy, h⟩ := Option.bind_eq_some_iff.1 h
      simp only [Option.some.injEq, Prod.mk.injEq] at h
      obtain ⟨rfl, rfl⟩ := h
      obtain ⟨m, hm⟩ : ∃ m : Nat, cpre p q = m + 1 := ⟨cpre p q - 1, by omega⟩
      have hm1 : (cpre p q - 1 : Nat) = m := by omega
      rw [hm1] at g3 g4 hxx hyy
      have HX := aS hxx
      have HY := aS hyy
      clear hxx hyy
      obtain ⟨ad3, e3, hz, p3, q3⟩ := atIA HCP.out (m : Int) (decide_eq_true (by omega)) (decide_eq_true (by omega))
      first | subst e3 | (injection e3 with e3; subst e3)
      replace hz := q1p HK1.out hz (by rw [q0n]; exact HNP.out _ rfl)
      rw [show ((m : Int)).toNat = m from rfl] at hz
      have hw3 : wrap64 ((cpre p q : Int) - 1) = (m : Int) := by have := HL1.out; unfold wrap64; omega
      obtain ⟨ASz, cSz, HGz, hgz, HSz⟩ := HI.out
      have hsz0 := q1y HGz
      have hsz1 := q1x HGz
      clear HGz hgz
      obtain ⟨ad4, A4_2, c4_2, A4_5, c4_5, e4, hx4_0, hx4_1, hx4_2, hx4_3, hx4_4, hx4_5, HC4_2, HR4_2, HC4_5, HR4_5, p4, q4⟩ := q0p HIB.out HSz (rd p ((m : Nat) : Int)) (decide_eq_true (by first | assumption | omega)) (decide_eq_true (by first | assumption | omega))
      cases e4
      clear hi hle ci cip ciq ce HI2 g1 g3 g4 hm hm1
      go_wp2
      repeat (go_quiet (first | (go_at_call 77; (with_reducible refine (slices_Index_int_int.calls k _ _ ((q00 l0 (rd p ((m : Nat) : Int))).f5) (rd p (cpre p q : Int)) _ _ ?s1 ?s2 HX.out).mono ?_); (case s1 => exact (Kd.C_below HR4_5.out (by repeat (first | exact HIB.out | apply bA | apply bN | apply bD)))); (case s2 => exact HC4_5.out); rintro e w' ⟨rfl, ⟨nd, rfl⟩⟩; (try first | exact ⟨rfl, _, World.drewN_drewN _ _ _⟩ | exact ⟨rfl, _, Eq.trans (World.drewN_drewN _ _ _) (congrArg (World.drewN _) (Nat.add_assoc _ _ _))⟩)) | (go_at_call 77; (with_reducible refine (slices_Index_int_int.calls k _ _ ((q00 l0 (rd p ((m : Nat) : Int))).f5) (rd q (cpre p q : Int)) _ _ ?s1 ?s2 HY.out).mono ?_); (case s1 => exact (Kd.C_below HR4_5.out (by repeat (first | exact HIB.out | apply bA | apply bN | apply bD)))); (case s2 => exact HC4_5.out); rintro e w' ⟨rfl, ⟨nd, rfl⟩⟩; (try first | exact ⟨rfl, _, World.drewN_drewN _ _ _⟩ | exact ⟨rfl, _, Eq.trans (World.drewN_drewN _ _ _) (congrArg (World.drewN _) (Nat.add_assoc _ _ _))⟩))); try go_wp2_with (first | (go_at_call 77; (with_reducible refine (slices_Index_int_int.calls k _ _ ((q00 l0 (rd p ((m : Nat) : Int))).f5) (rd p (cpre p q : Int)) _ _ ?s1 ?s2 HX.out).mono ?_); (case s1 => exact (Kd.C_below HR4_5.out (by repeat (first | exact HIB.out | apply bA | apply bN | apply bD)))); (case s2 => exact HC4_5.out); rintro e w' ⟨rfl, ⟨nd, rfl⟩⟩) | (go_at_call 77; (with_reducible refine (slices_Index_int_int.calls k _ _ ((q00 l0 (rd p ((m : Nat) : Int))).f5) (rd q (cpre p q : Int)) _ _ ?s1 ?s2 HY.out).mono ?_); (case s1 => exact (Kd.C_below HR4_5.out (by repeat (first | exact HIB.out | apply bA | apply bN | apply bD)))); (case s2 => exact HC4_5.out); rintro e w' ⟨rfl, ⟨nd, rfl⟩⟩)))
      go_ret2
      exact ⟨rfl, (by repeat (first | exact HB.out | apply bA | apply bN | apply bD))⟩
    ·have cq := CQ.out
     (first | have cib : decide ((i : Int) < (q.length : Int)) = false := decide_eq_false (by omega) | skip)
     (first | have cib2 : decide ((i : Int) < (p.length : Int)) = false := decide_eq_false (by omega) | skip)
     (first | have cib3 : decide (i < q.length) = false := decide_eq_false (by omega) | skip)
     (first | have cib4 : decide (i < p.length) = false := decide_eq_false (by omega) | skip)
     have cqd : decide (p.length < q.length) = decide ((p.length : Int) < (q.length : Int)) := by simp
     clear cq
     have h := H.out
     try dsimp only at h
     have hn : ¬ (cpre p q < p.length ∧ cpre p q < q.length) := by
      have h9 : p.drop i = [] ∨ q.drop i = [] := by
       rcases Nat.lt_or_ge i p.length with c | c
       ·exact .inr (List.drop_eq_nil_of_le (by omega))
       ·exact .inl (List.drop_eq_nil_of_le c)
      have h8 : cpre (p.drop i) (q.drop i) = 0 := by
       rcases h9 with e | e <;> rw [e]
       ·rfl
       ·cases p.drop i <;> rfl
      omega
     rw [if_neg hn] at h
     simp only [Option.some.injEq, Prod.mk.injEq] at h
     obtain ⟨rfl, rfl⟩ := h
     clear hn hi hle ci HI2
     go_wp2
     repeat (go_quiet (fail); try go_wp2)
     go_ret2
     exact ⟨by first | rfl | simp, (by repeat (first | exact HB.out | apply bA | apply bN | apply bD))⟩
 ·rw [if_neg z0] at h
  simp only [Option.some.injEq, Prod.mk.injEq] at h
  obtain ⟨rfl, rfl⟩ := h
  have z0b : (e0 == 0) = false := beq_eq_false_iff_ne.mpr z0
  have z0c : (e0 != 0) = true := bne_iff_ne.mpr z0
  have Z0 := aS z0
  clear z0
  go_enter Tryd.func21, Tryd.ntmps21
  go_wp2_with (first | ((with_reducible refine q0c (N := 3) rfl ?_); refine box0 rfl (N := 3) rfl (cs := #[.slice A0 l0.length c0, .bool a1]) (t := 24) (by first | (go_simp; done) | (go_simp; rfl)) (by repeat (first | exact HB.out | apply bA | apply bN | apply bD)) ?_; clear HB; intro gb wb BK GB HB; obtain ⟨hcz0, hcz1, -, -⟩ := bk2 BK.out) | ((with_reducible refine q0c (N := 18) rfl ?_); refine Kd.R_lit (Kd.int .i64) _ 3 ?hg (N := 18) ?hd (xs := ([a, b] : List Int)) (inner := [.int .i64 a, .int .i64 b]) (ok := fun _ => True) (okp := fun _ => True) ?hr ?hp (fun _ hk => hk) trivial (Below.refl _ _) (Nat.le_refl _) (by simp) ?_; (case hd => rfl); (case hg => rfl); (case hr => first | (go_simp; done) | (go_simp; rfl)); (case hp => exact (Reps.one (show Kd.M (Kd.int .i64) _ _ _ a [.int .i64 a] from rfl) (Reps.one (show Kd.M (Kd.int .i64) _ _ _ b [.int .i64 b] from rfl) (Reps.none _ _)))); intro vl wl hol hb hg_ hnew_; clear hg_ hnew_; (first | rw [← HLY.out] at hol | (simp only [Int.reduceToNat] at hol; rw [← HLY.out] at hol)); obtain ⟨Al, cl, el⟩ := Kd.R_slice hol; subst el; have n0_ := aS (q03 (by repeat (first | exact HB.out | apply bA | apply bN | apply bD)) hb); clear HB; have HB := n0_; clear n0_; have HRl := aS (Kd.R_reads' hol).2.2; have HCl := aS (Kd.R_reads' hol).2.1; clear hol; have BKn := aS (walk_check.blk BK.out hb); clear BK; have BK := BKn; clear BKn; clear hcz0 hcz1; obtain ⟨hcz0, hcz1, -, -⟩ := bk2 BK.out; clear hb) | (go_at_call 70; (with_reducible refine (walk_check.callsE k A0 c0 l0 a1 Al cl ly e0 Z0.out _ (Kd.C_below HR.out (by repeat (first | exact HB.out | apply bA | apply bN | apply bD))) HC.out (by repeat (first | (with_reducible exact HRl.out) | (with_reducible refine Kd.C_drewN ?_ _) | (with_reducible refine Kd.C_drew ?_) | (with_reducible refine Kd.C_alloc ?_ _))) HCl.out HLL.out HE.out).mono ?_); rintro e w2 ⟨hb, rfl⟩; have n0_ := aS (q03 (by repeat (first | exact HB.out | apply bA | apply bN | apply bD)) hb); clear HB; have HB := n0_; clear n0_; have BKn := aS (walk_check.blk BK.out hb); clear BK; have BK := BKn; clear BKn; clear hcz0 hcz1; obtain ⟨hcz0, hcz1, -, -⟩ := bk2 BK.out; clear hb))
  go_ret2
  exact ⟨rfl, (by repeat (first | exact HB.out | apply bA | apply bN | apply bD))⟩
theorem walk_Before.mono (l0 : List S43) (a1 : Bool) (a b : Int) (k : Nat) : LeO (walk_Before.f k l0 a1 a b) (walk_Before.f (k + 1) l0 a1 a b) :=
 LeO.bind (walk_check.mono l0 a1 [a, b] k) fun _ => LeO.ite (LeO.bind (walk_walker_path.mono l0 a1 a k) fun _ => LeO.bind (walk_walker_path.mono l0 a1 b k) fun _ => LeO.ite (LeO.ite (LeO.ite (LeO.bind (slices_Index_int_int.mono _ _ k) fun _ => LeO.bind (slices_Index_int_int.mono _ _ k) fun _ => LeO.refl _) (LeO.refl _)) (LeO.refl _)) (LeO.refl _)) (LeO.refl _)
def slices_Contains_int_int.f (k : Nat) (l0 : List Int) (a1 : Int) : Option (Bool) := (slices_Index_int_int.f k l0 a1).bind fun t267 => (some (decide (t267 ≥ 0)))
theorem slices_Contains_int_int.mono : ∀ a0 a1 k, LeO (slices_Contains_int_int.f k a0 a1) (slices_Contains_int_int.f (k + 1) a0 a1) := by
 intro a0 a1 k
 unfold slices_Contains_int_int.f
 repeat' first | with_reducible first | apply slices_Index_int_int.mono | exact LeO.refl _ | exact LeO.none _ | refine LeO.ite ?_ ?_ | refine LeO.bind ?_ (fun _ => ?_) | (first | apply slices_Index_int_int.mono | exact LeO.none _ | refine LeO.ite ?_ ?_ | refine LeO.bind ?_ (fun _ => ?_))
set_option maxHeartbeats 8000000 in
set_option maxRecDepth 100000 in
theorem slices_Contains_int_int.calls (k : Nat) (A0 : Option Addr) (c0 : Nat) (l0 : List Int) (a1 : Int) (r : Bool) (w : World) (hr0 : Kd.C (Kd.int .i64) w A0 l0.length l0) (hc0 : l0.length ≤ c0) (h : slices_Contains_int_int.f k l0 a1 = some r) :
 Calls Tryd.prog 78 #[.slice A0 l0.length c0, .int .i64 a1] w fun e w' => e = .returned (.bool r) ∧ Drawn0 w w' := by
 have HR0 := aS hr0
 have HC0 := aS hc0
 clear hr0 hc0
 have H := h; clear h; unfold slices_Contains_int_int.f at H
 replace H := iB H
 obtain ⟨t267, A3, H⟩ := H
 obtain rfl := Option.some.inj H
 go_enter Tryd.func78, Tryd.ntmps78
 go_wp2_with (first | ((with_reducible refine q06 (f := 77) rfl ?_); refine q0k (some 7) rfl rfl Tryd.func77 (by kernel_rfl) rfl #[.slice A0 l0.length c0, .int .i64 a1] rfl (by (try simp only [List.map_toArray, List.map_cons, List.map_nil]); first | done | rfl | (simp only [List.length_drop, List.length_take]; rfl)) ?_; (with_reducible refine (slices_Index_int_int.calls k _ _ l0 a1 t267 _ ?side1 ?side2 A3.out).mono ?_); (case side1 => repeat (first | exact HR0.out | (with_reducible refine cA ?_ _) | (with_reducible refine cN ?_ _) | (with_reducible refine cD ?_))); (case side2 => exact HC0.out); rintro e w' ⟨rfl, ⟨nd, rfl⟩⟩; refine ⟨_, rfl, ?_⟩))
 go_ret
 exact ⟨by first | rfl | (simp; done) | (simp [*]; done), by repeat (first | exact Drawn0.refl _ | apply Drawn0.step)⟩
end Go.Proofs.YthjnallbbhnndaaDoor.XWp
namespace Go.Proofs.YthjnallbbhnndaaDoor.XWp
open Go.Proofs.YthjnallbbhnndaaDoor.Short Go.RowKit Go.Proofs.YthjnallbbhnndaaDoorW.PrintWords Go.Proofs.YthjnallbbhnndaaDoorW.PrintLast Go.Proofs.YthjnallbbhnndaaDoorW.PrintMore
attribute [local go_sem] q15 q13 q1i q1h q0x q0w q14 q12   -- for this text's walks alone
set_option linter.unusedVariables false
set_option linter.unusedSimpArgs false
def walk_Within.f (k : Nat) (l0 : List S43) (a1 : Bool) (a b : Int) : Option (Bool × Int) :=
 (walk_check.f k l0 a1 [a, b]).bind fun e => if e = 0 then (walk_walker_path.f k l0 a1 a).bind fun p => if p.2 = a1 then (slices_Contains_int_int.f k p.1 b).bind fun t => some (t, 0) else none else some (false, e)
set_option maxHeartbeats 8000000 in
set_option maxRecDepth 100000 in
theorem walk_Within.calls (k : Nat) (A0 : Option Addr) (c0 : Nat) (l0 : List S43) (a1 : Bool) (a b : Int) (r1 : Bool) (r2 : Int) (w : World) (hr0 : Kd.C k43 w A0 l0.length l0) (hc0 : l0.length ≤ c0) (h : walk_Within.f k l0 a1 a b = some (r1, r2)) :
 Calls Tryd.prog 22 #[.agg #[.slice A0 l0.length c0, .bool a1], .int .i64 a, .int .i64 b] w fun e w' => e = .returned (.tuple #[.bool r1, .int .i64 r2]) ∧ Below w.heap.size w w' := by
 have hu24 := Tryd.underlying24
 unfold walk_Within.f at h
 obtain ⟨ly, hly⟩ : ∃ ly : List Int, ly = [a, b] := ⟨_, rfl⟩
 rw [← hly] at h
 have HLL : Aside0 (ly.length ≤ 4611686018427387904) := ⟨by rw [hly]; simp⟩
 have HLY := aS hly
 clear hly
 obtain ⟨e0, he0, h⟩ := Option.bind_eq_some_iff.1 h
 have HE := aS he0
 have HR := aS hr0
 have HC := aS hc0
 have HB := aS (Below.refl w.heap.size w)
 clear he0 hr0 hc0
 by_cases z0 : e0 = 0
 ·subst z0
  rw [if_pos rfl] at h
  obtain ⟨⟨p, p2⟩, hp, h⟩ := Option.bind_eq_some_iff.1 h
  refine iGp h ?_
  clear h
  intro e1 h
  obtain ⟨t, ht, h⟩ := Option.bind_eq_some_iff.1 h
  simp only [Option.some.injEq, Prod.mk.injEq] at h
  obtain ⟨rfl, rfl⟩ := h
  rw [show p2 = a1 from e1] at hp
  have HP := aS hp
  have HT := aS ht
  clear hp ht e1
  go_enter Tryd.func22, Tryd.ntmps22
  go_wp2_with (first | ((with_reducible refine q0c (N := 3) rfl ?_); refine box0 rfl (N := 3) rfl (cs := #[.slice A0 l0.length c0, .bool a1]) (t := 24) (by first | (go_simp; done) | (go_simp; rfl)) (by repeat (first | exact HB.out | apply bA | apply bN | apply bD)) ?_; clear HB; intro gb wb BK GB HB; obtain ⟨hcz0, hcz1, -, -⟩ := bk2 BK.out) | ((with_reducible refine q0c (N := 14) rfl ?_); refine Kd.R_lit (Kd.int .i64) _ 3 ?hg (N := 14) ?hd (xs := ([a, b] : List Int)) (inner := [.int .i64 a, .int .i64 b]) (ok := fun _ => True) (okp := fun _ => True) ?hr ?hp (fun _ hk => hk) trivial (Below.refl _ _) (Nat.le_refl _) (by simp) ?_; (case hd => rfl); (case hg => rfl); (case hr => first | (go_simp; done) | (go_simp; rfl)); (case hp => exact (Reps.one (show Kd.M (Kd.int .i64) _ _ _ a [.int .i64 a] from rfl) (Reps.one (show Kd.M (Kd.int .i64) _ _ _ b [.int .i64 b] from rfl) (Reps.none _ _)))); intro vl wl hol hb hg_ hnew_; clear hg_ hnew_; (first | rw [← HLY.out] at hol | (simp only [Int.reduceToNat] at hol; rw [← HLY.out] at hol)); obtain ⟨Al, cl, el⟩ := Kd.R_slice hol; subst el; have n0_ := aS (q03 (by repeat (first | exact HB.out | apply bA | apply bN | apply bD)) hb); clear HB; have HB := n0_; clear n0_; have HRl := aS (Kd.R_reads' hol).2.2; have HCl := aS (Kd.R_reads' hol).2.1; clear hol; have BKn := aS (walk_check.blk BK.out hb); clear BK; have BK := BKn; clear BKn; clear hcz0 hcz1; obtain ⟨hcz0, hcz1, -, -⟩ := bk2 BK.out; clear hb) | (go_at_call 70; (with_reducible refine (walk_check.calls0 k A0 c0 l0 a1 Al cl ly _ (Kd.C_below HR.out (by repeat (first | exact HB.out | apply bA | apply bN | apply bD))) HC.out (by repeat (first | (with_reducible exact HRl.out) | (with_reducible refine Kd.C_drewN ?_ _) | (with_reducible refine Kd.C_drew ?_) | (with_reducible refine Kd.C_alloc ?_ _))) HCl.out HLL.out HE.out).mono ?_); rintro e w2 ⟨hb, g2, rfl, hI⟩; have n0_ := aS (q03 (by repeat (first | exact HB.out | apply bA | apply bN | apply bD)) hb); obtain ⟨w0g2, hI, hIB, hIW⟩ : ∃ w0, q04 w0 w2 g2 l0 a1 ∧ Below w0.heap.size w0 w2 ∧ Below w.heap.size w w0 := ⟨_, hI, hb, (by repeat (first | exact HB.out | apply bA | apply bN | apply bD))⟩; clear HB; have HB := n0_; clear n0_; have HI := aS hI; have HIB := aS hIB; have HIW := aS hIW; clear hI hIB hIW; have BKn := aS (walk_check.blk BK.out hb); clear BK; have BK := BKn; clear BKn; clear hcz0 hcz1; obtain ⟨hcz0, hcz1, -, -⟩ := bk2 BK.out; clear hb) | (go_at_call 76; (with_reducible refine (walk_walker_path.calls k g2 l0 a1 a p a1 w0g2 _ (by repeat (first | (with_reducible exact HI.out) | (with_reducible apply q04.alloc) | (with_reducible apply q04.drewN) | (with_reducible apply q04.drew))) (by repeat (first | exact HIB.out | apply bA | apply bN | apply bD)) HP.out).mono ?_); rintro e wp ⟨vp, rfl, ho, hI9, hb9, hk9⟩; obtain ⟨Ap, cp, eo⟩ := Kd.R_slice ho; subst eo; have HNP : Aside0 (∀ ad, Ap = some ad → ad.block ≠ g2) := ⟨fun ad e_ => by subst e_; exact ne_own hI9 ho⟩; have HCP := aS (Kd.R_reads' ho).2.2; have HLP := aS (Kd.R_reads' ho).2.1; have HKP := aS (q07.refl wp g2 none); clear HB HI HIB ho hk9; have HI := aS hI9; have HIB := aS hb9; have HB := aS (q03 HIW.out hb9); clear hI9 hb9) | (go_at_call 78; (with_reducible refine (slices_Contains_int_int.calls k Ap cp p b _ _ (by repeat (first | (with_reducible exact HCP.out) | (with_reducible refine Kd.C_drewN ?_ _) | (with_reducible refine Kd.C_drew ?_) | (with_reducible refine Kd.C_alloc ?_ _))) HLP.out HT.out).mono ?_); rintro e w' ⟨rfl, ⟨nd, rfl⟩⟩))
  go_ret2
  exact ⟨rfl, (by repeat (first | exact HB.out | apply bA | apply bN | apply bD))⟩
 ·rw [if_neg z0] at h
  simp only [Option.some.injEq, Prod.mk.injEq] at h
  obtain ⟨rfl, rfl⟩ := h
  have z0b : (e0 == 0) = false := beq_eq_false_iff_ne.mpr z0
  have z0c : (e0 != 0) = true := bne_iff_ne.mpr z0
  have Z0 := aS z0
  clear z0
  go_enter Tryd.func22, Tryd.ntmps22
  go_wp2_with (first | ((with_reducible refine q0c (N := 3) rfl ?_); refine box0 rfl (N := 3) rfl (cs := #[.slice A0 l0.length c0, .bool a1]) (t := 24) (by first | (go_simp; done) | (go_simp; rfl)) (by repeat (first | exact HB.out | apply bA | apply bN | apply bD)) ?_; clear HB; intro gb wb BK GB HB; obtain ⟨hcz0, hcz1, -, -⟩ := bk2 BK.out) | ((with_reducible refine q0c (N := 14) rfl ?_); refine Kd.R_lit (Kd.int .i64) _ 3 ?hg (N := 14) ?hd (xs := ([a, b] : List Int)) (inner := [.int .i64 a, .int .i64 b]) (ok := fun _ => True) (okp := fun _ => True) ?hr ?hp (fun _ hk => hk) trivial (Below.refl _ _) (Nat.le_refl _) (by simp) ?_; (case hd => rfl); (case hg => rfl); (case hr => first | (go_simp; done) | (go_simp; rfl)); (case hp => exact (Reps.one (show Kd.M (Kd.int .i64) _ _ _ a [.int .i64 a] from rfl) (Reps.one (show Kd.M (Kd.int .i64) _ _ _ b [.int .i64 b] from rfl) (Reps.none _ _)))); intro vl wl hol hb hg_ hnew_; clear hg_ hnew_; (first | rw [← HLY.out] at hol | (simp only [Int.reduceToNat] at hol; rw [← HLY.out] at hol)); obtain ⟨Al, cl, el⟩ := Kd.R_slice hol; subst el; have n0_ := aS (q03 (by repeat (first | exact HB.out | apply bA | apply bN | apply bD)) hb); clear HB; have HB := n0_; clear n0_; have HRl := aS (Kd.R_reads' hol).2.2; have HCl := aS (Kd.R_reads' hol).2.1; clear hol; have BKn := aS (walk_check.blk BK.out hb); clear BK; have BK := BKn; clear BKn; clear hcz0 hcz1; obtain ⟨hcz0, hcz1, -, -⟩ := bk2 BK.out; clear hb) | (go_at_call 70; (with_reducible refine (walk_check.callsE k A0 c0 l0 a1 Al cl ly e0 Z0.out _ (Kd.C_below HR.out (by repeat (first | exact HB.out | apply bA | apply bN | apply bD))) HC.out (by repeat (first | (with_reducible exact HRl.out) | (with_reducible refine Kd.C_drewN ?_ _) | (with_reducible refine Kd.C_drew ?_) | (with_reducible refine Kd.C_alloc ?_ _))) HCl.out HLL.out HE.out).mono ?_); rintro e w2 ⟨hb, rfl⟩; have n0_ := aS (q03 (by repeat (first | exact HB.out | apply bA | apply bN | apply bD)) hb); clear HB; have HB := n0_; clear n0_; have BKn := aS (walk_check.blk BK.out hb); clear BK; have BK := BKn; clear BKn; clear hcz0 hcz1; obtain ⟨hcz0, hcz1, -, -⟩ := bk2 BK.out; clear hb))
  go_ret2
  exact ⟨rfl, (by repeat (first | exact HB.out | apply bA | apply bN | apply bD))⟩
theorem walk_Within.mono (l0 : List S43) (a1 : Bool) (a b : Int) (k : Nat) : LeO (walk_Within.f k l0 a1 a b) (walk_Within.f (k + 1) l0 a1 a b) :=
 LeO.bind (walk_check.mono l0 a1 [a, b] k) fun _ => LeO.ite (LeO.bind (walk_walker_path.mono l0 a1 a k) fun _ => LeO.ite (LeO.bind (slices_Contains_int_int.mono _ b k) fun _ => LeO.refl _) (LeO.refl _)) (LeO.refl _)
def walk_Place.f (k : Nat) (l0 : List S43) (a1 : Bool) (n : Int) : Option (Int × Int) :=
 (walk_check.f k l0 a1 [n]).bind fun e => if e = 0 then (if n = 0 then some (0, 0) else if 0 ≤ n ∧ n < (l0.length : Int) ∧ 0 ≤ (q00 l0 n).f4 ∧ (q00 l0 n).f4 < (l0.length : Int) then
  (slices_Index_int_int.f k (q00 l0 (q00 l0 n).f4).f5 n).bind fun t => some (t, 0) else none) else some (0, e)
set_option maxHeartbeats 8000000 in
set_option maxRecDepth 100000 in
theorem walk_Place.calls (k : Nat) (A0 : Option Addr) (c0 : Nat) (l0 : List S43) (a1 : Bool) (n : Int) (r1 : Int) (r2 : Int) (w : World) (hr0 : Kd.C k43 w A0 l0.length l0) (hc0 : l0.length ≤ c0) (h : walk_Place.f k l0 a1 n = some (r1, r2)) :
 Calls Tryd.prog 24 #[.agg #[.slice A0 l0.length c0, .bool a1], .int .i64 n] w fun e w' => e = .returned (.tuple #[.int .i64 r1, .int .i64 r2]) ∧ Below w.heap.size w w' := by
 have hu24 := Tryd.underlying24
 unfold walk_Place.f at h
 obtain ⟨ly, hly⟩ : ∃ ly : List Int, ly = [n] := ⟨_, rfl⟩
 rw [← hly] at h
 have HLL : Aside0 (ly.length ≤ 4611686018427387904) := ⟨by rw [hly]; simp⟩
 have HLY := aS hly
 clear hly
 obtain ⟨e0, he0, h⟩ := Option.bind_eq_some_iff.1 h
 have HE := aS he0
 have HR := aS hr0
 have HC := aS hc0
 have HB := aS (Below.refl w.heap.size w)
 clear he0 hr0 hc0
 by_cases z0 : e0 = 0
 ·subst z0
  rw [if_pos rfl] at h
  refine iE h ?pz ?nz <;> clear h
  case pz =>
   intro c1 c2 h
   simp only [Option.some.injEq, Prod.mk.injEq] at h
   obtain ⟨rfl, rfl⟩ := h
   go_enter Tryd.func24, Tryd.ntmps24
   go_wp2_with (first | ((with_reducible refine q0c (N := 2) rfl ?_); refine box0 rfl (N := 2) rfl (cs := #[.slice A0 l0.length c0, .bool a1]) (t := 24) (by first | (go_simp; done) | (go_simp; rfl)) (by repeat (first | exact HB.out | apply bA | apply bN | apply bD)) ?_; clear HB; intro gb wb BK GB HB; obtain ⟨hcz0, hcz1, -, -⟩ := bk2 BK.out) | ((with_reducible refine q0c (N := 11) rfl ?_); refine Kd.R_lit (Kd.int .i64) _ 3 ?hg (N := 11) ?hd (xs := ([n] : List Int)) (inner := [.int .i64 n]) (ok := fun _ => True) (okp := fun _ => True) ?hr ?hp (fun _ hk => hk) trivial (Below.refl _ _) (Nat.le_refl _) (by simp) ?_; (case hd => rfl); (case hg => rfl); (case hr => first | (go_simp; done) | (go_simp; rfl)); (case hp => exact (Reps.one (show Kd.M (Kd.int .i64) _ _ _ n [.int .i64 n] from rfl) (Reps.none _ _))); intro vl wl hol hb hg_ hnew_; clear hg_ hnew_; (first | rw [← HLY.out] at hol | (simp only [Int.reduceToNat] at hol; rw [← HLY.out] at hol)); obtain ⟨Al, cl, el⟩ := Kd.R_slice hol; subst el; have n0_ := aS (q03 (by repeat (first | exact HB.out | apply bA | apply bN | apply bD)) hb); clear HB; have HB := n0_; clear n0_; have HRl := aS (Kd.R_reads' hol).2.2; have HCl := aS (Kd.R_reads' hol).2.1; clear hol; have BKn := aS (walk_check.blk BK.out hb); clear BK; have BK := BKn; clear BKn; clear hcz0 hcz1; obtain ⟨hcz0, hcz1, -, -⟩ := bk2 BK.out; clear hb) | (go_at_call 70; (with_reducible refine (walk_check.calls0 k A0 c0 l0 a1 Al cl ly _ (Kd.C_below HR.out (by repeat (first | exact HB.out | apply bA | apply bN | apply bD))) HC.out (by repeat (first | (with_reducible exact HRl.out) | (with_reducible refine Kd.C_drewN ?_ _) | (with_reducible refine Kd.C_drew ?_) | (with_reducible refine Kd.C_alloc ?_ _))) HCl.out HLL.out HE.out).mono ?_); rintro e w2 ⟨hb, g2, rfl, hI⟩; have n0_ := aS (q03 (by repeat (first | exact HB.out | apply bA | apply bN | apply bD)) hb); obtain ⟨w0g2, hI, hIB, hIW⟩ : ∃ w0, q04 w0 w2 g2 l0 a1 ∧ Below w0.heap.size w0 w2 ∧ Below w.heap.size w w0 := ⟨_, hI, hb, (by repeat (first | exact HB.out | apply bA | apply bN | apply bD))⟩; clear HB; have HB := n0_; clear n0_; have HI := aS hI; have HIB := aS hIB; have HIW := aS hIW; clear hI hIB hIW; have BKn := aS (walk_check.blk BK.out hb); clear BK; have BK := BKn; clear BKn; clear hcz0 hcz1; obtain ⟨hcz0, hcz1, -, -⟩ := bk2 BK.out; clear hb))
   go_ret2
   exact ⟨rfl, (by repeat (first | exact HB.out | apply bA | apply bN | apply bD))⟩
  case nz =>
   intro c0' c1 c2 h
   clear c0'
   refine iGp h ?_
   clear h
   intro ⟨d1, d2, d3, d4⟩ h
   obtain ⟨t, ht, h⟩ := Option.bind_eq_some_iff.1 h
   simp only [Option.some.injEq, Prod.mk.injEq] at h
   obtain ⟨rfl, rfl⟩ := h
   have HT := aS ht
   clear ht
   go_enter Tryd.func24, Tryd.ntmps24
   go_wp2_with (first | ((with_reducible refine q0c (N := 2) rfl ?_); refine box0 rfl (N := 2) rfl (cs := #[.slice A0 l0.length c0, .bool a1]) (t := 24) (by first | (go_simp; done) | (go_simp; rfl)) (by repeat (first | exact HB.out | apply bA | apply bN | apply bD)) ?_; clear HB; intro gb wb BK GB HB; obtain ⟨hcz0, hcz1, -, -⟩ := bk2 BK.out) | ((with_reducible refine q0c (N := 11) rfl ?_); refine Kd.R_lit (Kd.int .i64) _ 3 ?hg (N := 11) ?hd (xs := ([n] : List Int)) (inner := [.int .i64 n]) (ok := fun _ => True) (okp := fun _ => True) ?hr ?hp (fun _ hk => hk) trivial (Below.refl _ _) (Nat.le_refl _) (by simp) ?_; (case hd => rfl); (case hg => rfl); (case hr => first | (go_simp; done) | (go_simp; rfl)); (case hp => exact (Reps.one (show Kd.M (Kd.int .i64) _ _ _ n [.int .i64 n] from rfl) (Reps.none _ _))); intro vl wl hol hb hg_ hnew_; clear hg_ hnew_; (first | rw [← HLY.out] at hol | (simp only [Int.reduceToNat] at hol; rw [← HLY.out] at hol)); obtain ⟨Al, cl, el⟩ := Kd.R_slice hol; subst el; have n0_ := aS (q03 (by repeat (first | exact HB.out | apply bA | apply bN | apply bD)) hb); clear HB; have HB := n0_; clear n0_; have HRl := aS (Kd.R_reads' hol).2.2; have HCl := aS (Kd.R_reads' hol).2.1; clear hol; have BKn := aS (walk_check.blk BK.out hb); clear BK; have BK := BKn; clear BKn; clear hcz0 hcz1; obtain ⟨hcz0, hcz1, -, -⟩ := bk2 BK.out; clear hb) | (go_at_call 70; (with_reducible refine (walk_check.calls0 k A0 c0 l0 a1 Al cl ly _ (Kd.C_below HR.out (by repeat (first | exact HB.out | apply bA | apply bN | apply bD))) HC.out (by repeat (first | (with_reducible exact HRl.out) | (with_reducible refine Kd.C_drewN ?_ _) | (with_reducible refine Kd.C_drew ?_) | (with_reducible refine Kd.C_alloc ?_ _))) HCl.out HLL.out HE.out).mono ?_); rintro e w2 ⟨hb, g2, rfl, hI⟩; have n0_ := aS (q03 (by repeat (first | exact HB.out | apply bA | apply bN | apply bD)) hb); obtain ⟨w0g2, hI, hIB, hIW⟩ : ∃ w0, q04 w0 w2 g2 l0 a1 ∧ Below w0.heap.size w0 w2 ∧ Below w.heap.size w w0 := ⟨_, hI, hb, (by repeat (first | exact HB.out | apply bA | apply bN | apply bD))⟩; clear HB; have HB := n0_; clear n0_; have HI := aS hI; have HIB := aS hIB; have HIW := aS hIW; clear hI hIB hIW; have BKn := aS (walk_check.blk BK.out hb); clear BK; have BK := BKn; clear BKn; clear hcz0 hcz1; obtain ⟨hcz0, hcz1, -, -⟩ := bk2 BK.out; clear hb))
   obtain ⟨ASz, cSz, HGz, hgz, HSz⟩ := HI.out
   have hsz0 := q1y HGz
   have hsz1 := q1x HGz
   clear HGz hgz
   obtain ⟨ad1, A1_2, c1_2, A1_5, c1_5, e1, hx1_0, hx1_1, hx1_2, hx1_3, hx1_4, hx1_5, HC1_2, HR1_2, HC1_5, HR1_5, p1, q1⟩ := q0p HIB.out HSz n (decide_eq_true (by first | assumption | omega)) (decide_eq_true (by first | assumption | omega))
   cases e1
   obtain ⟨ad2, A2_2, c2_2, A2_5, c2_5, e2, hx2_0, hx2_1, hx2_2, hx2_3, hx2_4, hx2_5, HC2_2, HR2_2, HC2_5, HR2_5, p2, q2⟩ := q0p HIB.out HSz ((q00 l0 n).f4) (decide_eq_true (by first | assumption | omega)) (decide_eq_true (by first | assumption | omega))
   obtain rfl : ad1 = ad2 := (by injection e2)
   clear d1 d2 d3 d4
   repeat (go_quiet (first | (go_at_call 77; (with_reducible refine (slices_Index_int_int.calls k _ _ ((q00 l0 (q00 l0 n).f4).f5) (n) _ _ ?s1 ?s2 HT.out).mono ?_); (case s1 => exact (Kd.C_below HR2_5.out (by repeat (first | exact HIB.out | apply bA | apply bN | apply bD)))); (case s2 => exact HC2_5.out); rintro e w' ⟨rfl, ⟨nd, rfl⟩⟩; (try first | exact ⟨rfl, _, World.drewN_drewN _ _ _⟩ | exact ⟨rfl, _, Eq.trans (World.drewN_drewN _ _ _) (congrArg (World.drewN _) (Nat.add_assoc _ _ _))⟩))); try go_wp2_with (first | (go_at_call 77; (with_reducible refine (slices_Index_int_int.calls k _ _ ((q00 l0 (q00 l0 n).f4).f5) (n) _ _ ?s1 ?s2 HT.out).mono ?_); (case s1 => exact (Kd.C_below HR2_5.out (by repeat (first | exact HIB.out | apply bA | apply bN | apply bD)))); (case s2 => exact HC2_5.out); rintro e w' ⟨rfl, ⟨nd, rfl⟩⟩)))
   go_ret2
   exact ⟨rfl, (by repeat (first | exact HB.out | apply bA | apply bN | apply bD))⟩
 ·rw [if_neg z0] at h
  simp only [Option.some.injEq, Prod.mk.injEq] at h
  obtain ⟨rfl, rfl⟩ := h
  have z0b : (e0 == 0) = false := beq_eq_false_iff_ne.mpr z0
  have z0c : (e0 != 0) = true := bne_iff_ne.mpr z0
  have Z0 := aS z0
  clear z0
  go_enter Tryd.func24, Tryd.ntmps24
  go_wp2_with (first | ((with_reducible refine q0c (N := 2) rfl ?_); refine box0 rfl (N := 2) rfl (cs := #[.slice A0 l0.length c0, .bool a1]) (t := 24) (by first | (go_simp; done) | (go_simp; rfl)) (by repeat (first | exact HB.out | apply bA | apply bN | apply bD)) ?_; clear HB; intro gb wb BK GB HB; obtain ⟨hcz0, hcz1, -, -⟩ := bk2 BK.out) | ((with_reducible refine q0c (N := 11) rfl ?_); refine Kd.R_lit (Kd.int .i64) _ 3 ?hg (N := 11) ?hd (xs := ([n] : List Int)) (inner := [.int .i64 n]) (ok := fun _ => True) (okp := fun _ => True) ?hr ?hp (fun _ hk => hk) trivial (Below.refl _ _) (Nat.le_refl _) (by simp) ?_; (case hd => rfl); (case hg => rfl); (case hr => first | (go_simp; done) | (go_simp; rfl)); (case hp => exact (Reps.one (show Kd.M (Kd.int .i64) _ _ _ n [.int .i64 n] from rfl) (Reps.none _ _))); intro vl wl hol hb hg_ hnew_; clear hg_ hnew_; (first | rw [← HLY.out] at hol | (simp only [Int.reduceToNat] at hol; rw [← HLY.out] at hol)); obtain ⟨Al, cl, el⟩ := Kd.R_slice hol; subst el; have n0_ := aS (q03 (by repeat (first | exact HB.out | apply bA | apply bN | apply bD)) hb); clear HB; have HB := n0_; clear n0_; have HRl := aS (Kd.R_reads' hol).2.2; have HCl := aS (Kd.R_reads' hol).2.1; clear hol; have BKn := aS (walk_check.blk BK.out hb); clear BK; have BK := BKn; clear BKn; clear hcz0 hcz1; obtain ⟨hcz0, hcz1, -, -⟩ := bk2 BK.out; clear hb) | (go_at_call 70; (with_reducible refine (walk_check.callsE k A0 c0 l0 a1 Al cl ly e0 Z0.out _ (Kd.C_below HR.out (by repeat (first | exact HB.out | apply bA | apply bN | apply bD))) HC.out (by repeat (first | (with_reducible exact HRl.out) | (with_reducible refine Kd.C_drewN ?_ _) | (with_reducible refine Kd.C_drew ?_) | (with_reducible refine Kd.C_alloc ?_ _))) HCl.out HLL.out HE.out).mono ?_); rintro e w2 ⟨hb, rfl⟩; have n0_ := aS (q03 (by repeat (first | exact HB.out | apply bA | apply bN | apply bD)) hb); clear HB; have HB := n0_; clear n0_; have BKn := aS (walk_check.blk BK.out hb); clear BK; have BK := BKn; clear BKn; clear hcz0 hcz1; obtain ⟨hcz0, hcz1, -, -⟩ := bk2 BK.out; clear hb))
  go_ret2
  exact ⟨rfl, (by repeat (first | exact HB.out | apply bA | apply bN | apply bD))⟩
theorem walk_Place.mono (l0 : List S43) (a1 : Bool) (n : Int) (k : Nat) : LeO (walk_Place.f k l0 a1 n) (walk_Place.f (k + 1) l0 a1 n) :=
 LeO.bind (walk_check.mono l0 a1 [n] k) fun _ => LeO.ite (LeO.ite (LeO.refl _) (LeO.ite (LeO.bind (slices_Index_int_int.mono _ n k) fun _ => LeO.refl _) (LeO.refl _))) (LeO.refl _)
mutual
def clerestoryref1_Below.l0 : Nat → Int → List Int → Int → List (S43) → Bool → Option (List Int)
 | 0, _, _, _, _, _ => none
 | k + 1, x1, x5, x6, x269000, x269001 => if 0 ≤ x1 then (if x1 < (x269000.length : Int) then (if x6 < (((q00 x269000 x1).f5).length : Int) then (if 0 ≤ x6 then ((clerestoryref1_Below.f k x269000 x269001 (rd ((q00 x269000 x1).f5) x6)).bind fun t275 => (if x5.length + t275.length < 17592186044416 then (clerestoryref1_Below.l0 k x1 (x5 ++ t275) (wrap64 (x6 + 1)) x269000 x269001) else (none))) else (none)) else (some x5)) else (none)) else (none)
def clerestoryref1_Below.f : Nat → List (S43) → Bool → Int → Option (List Int)
 | 0, _, _, _ => none
 | k + 1, l0_0, a0_1, a1 => clerestoryref1_Below.l0 k a1 (([a1] : List Int)) 0 l0_0 a0_1
end
theorem clerestoryref1_Below.mono_l : ∀ k, (∀ y0 y1 y2, LeO (clerestoryref1_Below.f k y0 y1 y2) (clerestoryref1_Below.f (k + 1) y0 y1 y2)) ∧ (∀ y0 y1 y2 y3 y4, LeO (clerestoryref1_Below.l0 k y0 y1 y2 y3 y4) (clerestoryref1_Below.l0 (k + 1) y0 y1 y2 y3 y4))
 | 0 => ⟨fun _ _ _ r h => by simp [clerestoryref1_Below.f] at h, fun _ _ _ _ _ r h => by simp [clerestoryref1_Below.l0] at h⟩
 | k + 1 => by
  obtain ⟨ih0, ih1⟩ := clerestoryref1_Below.mono_l k
  refine ⟨?_, ?_⟩
  all_goals intros
  all_goals (first | unfold clerestoryref1_Below.f | unfold clerestoryref1_Below.l0)
  all_goals (repeat' first | with_reducible first | apply ih0 | apply ih1 | exact LeO.refl _ | exact LeO.none _ | refine LeO.ite ?_ ?_ | refine LeO.bind ?_ (fun _ => ?_) | (first | apply ih0 | apply ih1 | exact LeO.none _ | refine LeO.ite ?_ ?_ | refine LeO.bind ?_ (fun _ => ?_)))
theorem clerestoryref1_Below.mono : ∀ a0 a1 a2 k, LeO (clerestoryref1_Below.f k a0 a1 a2) (clerestoryref1_Below.f (k + 1) a0 a1 a2) := by
 intro a0 a1 a2 k
 obtain ⟨ih0, ih1⟩ := clerestoryref1_Below.mono_l k
 exact ih0 a0 a1 a2
def clerestoryref1_Below.T5 : Bool × List (List Nat × List Nat) := (true, [([], []), ([], []), ([], []), ([2], [2]), ([], []), ([3, 4], [3, 4]), ([5], [5]), ([6], [6]), ([], []), ([7, 8], [7, 8]), ([9], [9]), ([1, 10], [1, 10]), ([0, 11, 11], [0, 11]), ([12, 12, 0, 1, 2, 3, 4, 5, 6, 7, 8, 9, 10, 11, 12], [0, 12])])
def clerestoryref1_Below.B5 : List Nat := [0, 0, 0, 4, 0, 28, 60, 124, 0, 508, 1020, 2046, 4095, 8191]
theorem clerestoryref1_Below.tab5 : rtab .any (opsOf Tryd.f25 5) = clerestoryref1_Below.T5 := by kernel_rfl
theorem clerestoryref1_Below.bits5 : q1l clerestoryref1_Below.T5.2 clerestoryref1_Below.B5 = true := by kernel_rfl
set_option maxHeartbeats 8000000 in
set_option maxRecDepth 100000 in
theorem clerestoryref1_Below.calls (k : Nat) : ∀ (A0_0 : Option Addr) (c0_0 : Nat) (l0_0 : List (S43)) (a0_1 : Bool) (a1 : Int) (r : List Int) (w : World) (hr0_0 : Kd.C k43 w A0_0 l0_0.length l0_0) (hc0_0 : l0_0.length ≤ c0_0) (h : clerestoryref1_Below.f k l0_0 a0_1 a1 = some r),
 Calls Tryd.prog 25 #[.agg #[.slice A0_0 l0_0.length c0_0, .bool a0_1], .int .i64 a1] w fun e w' => ∃ v0_ : Value, e = .returned (v0_) ∧ Kd.R (Kd.int .i64) 3 w' w.heap.size (fun _ => True) v0_ r ∧ Below w.heap.size w w' := by
 induction k using Nat.strongRecOn with
 | _ k ih =>
 intro A0_0 c0_0 l0_0 a0_1 a1 r w hr0_0 hc0_0 h
 cases k with
 | zero => exact absurd h (by simp [clerestoryref1_Below.f])
 | succ k =>
 simp only [clerestoryref1_Below.f] at h
 have hu24 := Tryd.underlying24
 have HR0_0 := aS hr0_0
 have HC0_0 := aS hc0_0
 clear hr0_0 hc0_0
 have HB := aS (Below.refl w.heap.size w)
 have H := h; clear h; unfold clerestoryref1_Below.f at H
 obtain ⟨y269, hy269⟩ : ∃ y_ : List Int, y_ = (([a1] : List Int)) := ⟨_, rfl⟩
 replace H : (clerestoryref1_Below.l0 k a1 y269 0 l0_0 a0_1) = some r := by first | (rw [hy269]; with_reducible exact H) | (have H2_ := (Option.bind_some _ _).symm.trans H; rw [hy269]; with_reducible exact H2_) | (have H2_ := (Option.bind_some _ _).symm.trans H; with_reducible exact H2_) | with_reducible exact H | (rw [hy269]; exact H) | exact H
 have Ny269 := aS hy269
 clear hy269
 have H' := aS H
 clear H
 go_enter Tryd.func25, Tryd.ntmps25
 go_wp2_with (first | ((with_reducible refine q0c (N := 2) rfl ?_); refine box0 rfl (N := 2) rfl (cs := #[.slice A0_0 l0_0.length c0_0, .bool a0_1]) (t := 24) (by first | (go_simp; done) | (go_simp; rfl)) (by repeat (first | (with_reducible first | exact HB.out | apply bA | apply bN | apply bD) | exact HB.out)) ?_; clear HB; intro gb268 w3 BK268 GW268 HB; have GE268 := GW268) | ((with_reducible refine q0c (N := 8) rfl ?_); refine Kd.R_lit (Kd.int .i64) _ 3 ?hg (N := 8) ?hd (xs := ([a1] : List Int)) (inner := [.int .i64 a1]) (ok := fun _ => True) (okp := fun _ => True) ?hr ?hp (fun _ hk => hk) trivial (Below.refl _ _) (Nat.le_refl _) (by simp) ?_; (case hd => rfl); (case hg => rfl); (case hr => first | (go_simp; done) | (go_simp; rfl)); (case hp => exact (Reps.one (show Kd.M (Kd.int .i64) _ _ _ a1 [.int .i64 a1] from rfl) (Reps.none _ _))); intro v270 w4 ho5 hb hg_ hnew_; clear hg_ hnew_; (first | rw [← Ny269.out] at ho5 | (simp only [Int.reduceToNat] at ho5; rw [← Ny269.out] at ho5)); have HO271 := aS (Kd.R_lower ho5 (q0g (by repeat (first | (with_reducible first | exact HB.out | apply bA | apply bN | apply bD | refine bS ?_ GE268.out) | exact HB.out)))); replace BK268 := aS (q08 (g := gb268) (o := .cells #[.slice A0_0 l0_0.length c0_0, .bool a0_1] 24 (0, 0)) (by (with_reducible repeat (first | refine kN ?_ _ | refine kD ?_ | refine kA ?_ _)); exact BK268.out) hb); replace HB := aS (q03 (by repeat (first | (with_reducible first | exact HB.out | apply bA | apply bN | apply bD | refine bS ?_ GE268.out) | exact HB.out)) hb); clear hb ho5))
 go_loopg [5, 6] k (fun kq v5 v6 w' => ∃ (x5_1 : List Int) (x6_1 : Int), v6 = .int .i64 x6_1 ∧ Aside0 (clerestoryref1_Below.l0 kq a1 x5_1 x6_1 l0_0 a0_1 = some r) ∧ Aside0 (kq ≤ k) ∧ Aside0 (Kd.R (Kd.int .i64) 3 w' w.heap.size (fun _ => True) v5 x5_1) ∧ Aside0 (w'.heap[gb268]? = some (.cells #[(.slice A0_0 l0_0.length c0_0), .bool a0_1] 24 (0, 0))) ∧ Aside0 (Below w.heap.size w w'))
 case atStart => exact ⟨(y269), (0), (by first | rfl | (simp; done) | simp [*]), H', ⟨Nat.le_refl _⟩, ⟨by (with_reducible repeat (first | apply rA | apply rN | apply rD)); exact HO271.out⟩, ⟨by (with_reducible repeat (first | refine kN ?_ _ | refine kD ?_ | refine kA ?_ _)); exact BK268.out⟩, ⟨by repeat (first | (with_reducible first | exact HB.out | apply bA | apply bN | apply bD | refine bS ?_ GE268.out) | exact HB.out)⟩⟩
 case round =>
  clear H'
  obtain ⟨x5_1, x6_1, rfl, HA, HK1, HO_5, BK268, HB⟩ := hrel
  cases gk with
  | zero => exact absurd HA.out (by simp [clerestoryref1_Below.l0])
  | succ k1 =>
   have H := HA.out
   clear HA
   simp only [clerestoryref1_Below.l0] at H
   refine iLp H ?_; clear H; intro c6b0 H
   refine iTp H ?_; clear H; intro c7b0 H
   refine iT H ?p8 ?n8 <;> clear H
   case' p8 => intro c8b0 H; refine iLp H ?_; clear H; intro c9b0 H; replace H := iB H; obtain ⟨t275, A10, H⟩ := H; refine iGp H ?_; clear H; intro c11 H
   case' n8 => intro c8b0 H
   case p8 =>
    have LMc11 := aS c11
    clear c11
    obtain ⟨y278, hy278⟩ : ∃ y_ : List Int, y_ = (x5_1 ++ t275) := ⟨_, rfl⟩
    replace H : (clerestoryref1_Below.l0 k1 a1 y278 (wrap64 (x6_1 + 1)) l0_0 a0_1) = some r := by first | (rw [hy278]; with_reducible exact H) | (have H2_ := (Option.bind_some _ _).symm.trans H; rw [hy278]; with_reducible exact H2_) | (have H2_ := (Option.bind_some _ _).symm.trans H; with_reducible exact H2_) | with_reducible exact H | (rw [hy278]; exact H) | exact H
    have Ny278 := aS hy278
    clear hy278
    have H' := aS H
    clear H
    obtain ⟨hczL_0, hczL_1, hfzL_0, hfzL_1⟩ := bk2 BK268.out
    obtain ⟨ad272, A272_2, c272_2, A272_5, c272_5, e272, hx272_0, hx272_1, hx272_2, hx272_3, hx272_4, hx272_5, HC272_2, HR272_2, HC272_5, HR272_5, p272, q272⟩ := q0p HB.out HR0_0.out a1 (by first | with_reducible assumption | assumption) (by first | with_reducible assumption | assumption)
    cases e272
    try go_wp2
    have n0_ := aS (Kd.R_drew HO_5.out)
    have n1_ := aS (q1e BK268.out)
    have n2_ := aS (q0s HB.out)
    clear HO_5
    clear BK268
    clear HB
    have HO_5 := n0_
    have BK268 := n1_
    have HB := n2_
    clear n0_ n1_ n2_
    have p273 : 0 ≤ (a1 : Int) := od (by first | (with_reducible assumption) | assumption)
    have q273 : a1 < (l0_0.length : Int) := od (by first | (with_reducible assumption) | assumption)
    obtain ⟨ad273, A273_2, c273_2, A273_5, c273_5, e273, hx273_0, hx273_1, hx273_2, hx273_3, hx273_4, hx273_5, hl273_2, hi273_2, hl273_5, hi273_5⟩ := at_T43 HR0_0.out a1 p273 q273
    have hw273_5 := hx273_5
    have hw273_4 := hx273_4
    have hw273_3 := hx273_3
    have hw273_2 := hx273_2
    have hw273_1 := hx273_1
    have hw273_0 := hx273_0
    obtain rfl : ad272 = ad273 := (by injection e273)
    replace hx273_0 := q09 HB.out hx273_0
    replace hx273_1 := q09 HB.out hx273_1
    replace hx273_2 := q09 HB.out hx273_2
    replace hx273_3 := q09 HB.out hx273_3
    replace hx273_4 := q09 HB.out hx273_4
    replace hx273_5 := q09 HB.out hx273_5
    have HR273_2 := aS hi273_2
    have HC273_2 := aS hl273_2
    clear hi273_2 hl273_2
    have HR273_5 := aS hi273_5
    have HC273_5 := aS hl273_5
    clear hi273_5 hl273_5
    replace p273 := eq_true p273
    replace q273 := eq_true q273
    have p274 : 0 ≤ (x6_1 : Int) := od (by first | (with_reducible assumption) | assumption)
    have q274 : x6_1 < (((q00 l0_0 a1).f5).length : Int) := od (by first | (with_reducible assumption) | assumption)
    obtain ⟨ad274, e274, hx274_0⟩ := Kd.at_int HR273_5.out x6_1 p274 q274
    have hw274_0 := hx274_0
    cases e274
    replace hx274_0 := q09 HB.out hx274_0
    replace p274 := eq_true p274
    replace q274 := eq_true q274
    refine start_ (n := 14) (S := fun w' => w'.cell? ⟨gb268, 0, none⟩ = some (.slice (some ad272) l0_0.length c0_0) ∧ w'.cell? ⟨gb268, 1, none⟩ = some (.bool a0_1) ∧ w'.cell? (ad272.add ((a1).toNat * 6)) = some (.int .i64 ((q00 l0_0 a1).f0)) ∧ w'.cell? ⟨(ad272.add ((a1).toNat * 6)).block, (ad272.add ((a1).toNat * 6)).off + 1, none⟩ = some (.string ((q00 l0_0 a1).f1)) ∧ w'.cell? ⟨(ad272.add ((a1).toNat * 6)).block, (ad272.add ((a1).toNat * 6)).off + 2, none⟩ = some (.slice A273_2 ((q00 l0_0 a1).f2).length c273_2) ∧ w'.cell? ⟨(ad272.add ((a1).toNat * 6)).block, (ad272.add ((a1).toNat * 6)).off + 3, none⟩ = some (.string ((q00 l0_0 a1).f3)) ∧ w'.cell? ⟨(ad272.add ((a1).toNat * 6)).block, (ad272.add ((a1).toNat * 6)).off + 4, none⟩ = some (.int .i64 ((q00 l0_0 a1).f4)) ∧ w'.cell? ⟨(ad272.add ((a1).toNat * 6)).block, (ad272.add ((a1).toNat * 6)).off + 5, none⟩ = some (.slice (some ad274) ((q00 l0_0 a1).f5).length c273_5) ∧ w'.cell? (ad274.add (x6_1).toNat) = some (.int .i64 (rd ((q00 l0_0 a1).f5) x6_1))) (ds := []) #[false, false, false, false, false, false, false, false, false, false, false, false, false, false] (by kernel_rfl) rfl rfl ⟨(q05 BK268.out 0).trans rfl, (q05 BK268.out 1).trans rfl, ((HB.out.cell (World.block_lt_of_cell? w _ hw273_0)).trans hw273_0), ((HB.out.cell (World.block_lt_of_cell? w _ hw273_1)).trans hw273_1), ((HB.out.cell (World.block_lt_of_cell? w _ hw273_2)).trans hw273_2), ((HB.out.cell (World.block_lt_of_cell? w _ hw273_3)).trans hw273_3), ((HB.out.cell (World.block_lt_of_cell? w _ hw273_4)).trans hw273_4), ((HB.out.cell (World.block_lt_of_cell? w _ hw273_5)).trans hw273_5), ((HB.out.cell (World.block_lt_of_cell? w _ hw274_0)).trans hw274_0)⟩ (fun hHeld => ?_); refine q1c clerestoryref1_Below.tab5 clerestoryref1_Below.bits5 (fun HT_ HW_ => ?_)
    generalize wr.drew = w13 at HO_5 BK268 HB HR273_2 HR273_5 hx273_0 hx273_1 hx273_2 hx273_3 hx273_4 hx273_5 hx274_0 hHeld ⊢
    refine q0o (i := 0) (N := some 20) (v := ?_) (a' := ?_) #[true, false, false, false, false, false, false, false, false, false, false, false, false, false] rfl rfl (q0i HT_.out (by kernel_rfl)) (fun _ _ _ h => h) (Or.inl ⟨by rfl, ?_⟩) ?_ ?_
    rotate_left
    ·intro w'
     go_simp
     with_reducible rfl
    rotate_left
    ·simp only [Act.put, s1, s2, s3, q0d, q0e]
     rfl
    refine q0o (i := 2) (N := some 22) (v := ?_) (a' := ?_) #[true, false, true, false, false, false, false, false, false, false, false, false, false, false] rfl rfl (q0i HT_.out (by kernel_rfl)) (fun _ _ _ h => h) (Or.inl ⟨by rfl, ?_⟩) ?_ ?_
    rotate_left
    ·intro w'
     go_simp
     with_reducible rfl
    rotate_left
    ·simp only [Act.put, s1, s2, s3, q0d, q0e]
     rfl
    refine q0o (i := 4) (N := some 24) (v := ?_) (a' := ?_) #[true, false, true, false, true, false, false, false, false, false, false, false, false, false] rfl rfl (q0i HT_.out (by kernel_rfl)) (fun _ _ _ h => h) (Or.inl ⟨by rfl, ?_⟩) ?_ ?_
    rotate_left
    ·intro w'
     go_simp
     with_reducible rfl
    rotate_left
    ·simp only [Act.put, s1, s2, s3, q0d, q0e]
     rfl
    refine q0o (i := 8) (N := some 28) (v := ?_) (a' := ?_) #[true, false, true, false, true, false, false, false, true, false, false, false, false, false] rfl rfl (q0i HT_.out (by kernel_rfl)) (fun _ _ _ h => h) (Or.inl ⟨by rfl, ?_⟩) ?_ ?_
    rotate_left
    ·intro w'
     go_simp
     with_reducible rfl
    rotate_left
    ·simp only [Act.put, s1, s2, s3, q0d, q0e]
     rfl
    refine take_ (i := 1) (N := some 21) (v := ?_) (a' := ?_) #[true, true, true, false, true, false, false, false, true, false, false, false, false, false] rfl rfl (q0r HT_.out HW_.out (by kernel_rfl)) (fun _ _ _ h => h) (Or.inl ⟨by rfl, ?_⟩) hHeld ?_ ?_
    rotate_left
    ·rintro w' ⟨s0, s1, s2, s3, s4, s5, s6, s7, s8⟩
     go_simp
     with_reducible rfl
    rotate_left
    ·simp only [Act.put, s1, s2, s3, q0d, q0e]
     rfl
    refine take_ (i := 3) (N := some 23) (v := ?_) (a' := ?_) #[true, true, true, true, true, false, false, false, true, false, false, false, false, false] rfl rfl (q0r HT_.out HW_.out (by kernel_rfl)) (fun _ _ _ h => h) (Or.inl ⟨by rfl, ?_⟩) hHeld ?_ ?_
    rotate_left
    ·rintro w' ⟨s0, s1, s2, s3, s4, s5, s6, s7, s8⟩
     go_simp
     with_reducible rfl
    rotate_left
    ·simp only [Act.put, s1, s2, s3, q0d, q0e]
     rfl
    refine q0o (i := 5) (N := some 25) (v := ?_) (a' := ?_) #[true, true, true, true, true, true, false, false, true, false, false, false, false, false] rfl rfl (q0i HT_.out (by kernel_rfl)) (fun _ _ _ h => h) (Or.inl ⟨by rfl, ?_⟩) ?_ ?_
    rotate_left
    ·intro w'
     go_simp
     with_reducible rfl
    rotate_left
    ·simp only [Act.put, s1, s2, s3, q0d, q0e]
     rfl
    refine q0o (i := 6) (N := some 26) (v := ?_) (a' := ?_) #[true, true, true, true, true, true, true, false, true, false, false, false, false, false] rfl rfl (q0i HT_.out (by kernel_rfl)) (fun _ _ _ h => h) (Or.inl ⟨by rfl, ?_⟩) ?_ ?_
    rotate_left
    ·intro w'
     go_simp
     with_reducible rfl
    rotate_left
    ·simp only [Act.put, s1, s2, s3, q0d, q0e]
     rfl
    refine take_ (i := 7) (N := some 27) (v := ?_) (a' := ?_) #[true, true, true, true, true, true, true, true, true, false, false, false, false, false] rfl rfl (q0r HT_.out HW_.out (by kernel_rfl)) (fun _ _ _ h => h) (Or.inl ⟨by rfl, ?_⟩) hHeld ?_ ?_
    rotate_left
    ·rintro w' ⟨s0, s1, s2, s3, s4, s5, s6, s7, s8⟩
     go_simp
     with_reducible rfl
    rotate_left
    ·simp only [Act.put, s1, s2, s3, q0d, q0e]
     rfl
    refine q0o (i := 9) (N := some 29) (v := ?_) (a' := ?_) #[true, true, true, true, true, true, true, true, true, true, false, false, false, false] rfl rfl (q0i HT_.out (by kernel_rfl)) (fun _ _ _ h => h) (Or.inl ⟨by rfl, ?_⟩) ?_ ?_
    rotate_left
    ·intro w'
     go_simp
     with_reducible rfl
    rotate_left
    ·simp only [Act.put, s1, s2, s3, q0d, q0e]
     rfl
    refine take_ (i := 10) (N := some 30) (v := ?_) (a' := ?_) #[true, true, true, true, true, true, true, true, true, true, true, false, false, false] rfl rfl (q0r HT_.out HW_.out (by kernel_rfl)) (fun _ _ _ h => h) (Or.inl ⟨by rfl, ?_⟩) hHeld ?_ ?_
    rotate_left
    ·rintro w' ⟨s0, s1, s2, s3, s4, s5, s6, s7, s8⟩
     go_simp
     with_reducible rfl
    rotate_left
    ·simp only [Act.put, s1, s2, s3, q0d, q0e]
     rfl
    refine one_ (i := 11) (N := some 31) #[true, true, true, true, true, true, true, true, true, true, true, true, false, false] rfl rfl (one_of HT_.out (by kernel_rfl)) (by decide) (fun K hK => ?_)
    refine goes_ Tryd.func25 (by kernel_rfl) rfl #[.agg #[.slice (some ad272) l0_0.length c0_0, .bool a0_1], .int .i64 (rd ((q00 l0_0 a1).f5) x6_1)] (by rfl) rfl rfl (by (try simp only [List.map_toArray, List.map_cons, List.map_nil]); first | done | rfl | (simp only [List.length_drop, List.length_take]; rfl)) ?_
    with_reducible refine (ih k1 (by have := HK1.out; omega) _ _ l0_0 a0_1 (rd ((q00 l0_0 a1).f5) x6_1) t275 _ ?side1 ?side2 A10.out).mono ?_
    (case side1 => repeat (first | exact (Kd.C_below HR0_0.out HB.out) | (with_reducible refine cA ?_ _) | (with_reducible refine cN ?_ _) | (with_reducible refine cD ?_)))
    (case side2 => exact HC0_0.out)
    rintro e w14 ⟨v276, rfl, ho0, hb⟩
    refine ⟨_, rfl, ?_⟩
    have n0_ := aS (Kd.R_elder' (by (with_reducible repeat (first | apply rA | apply rN | apply rD)); exact HO_5.out) (Kd.R_base ho0) hb)
    have n1_ := aS (Kd.R_lower (Kd.R_new' ho0 (Kd.R_lt (by (with_reducible repeat (first | apply rA | apply rN | apply rD)); exact HO_5.out))) (q0g (by repeat (first | (with_reducible first | exact HB.out | apply bA | apply bN | apply bD | refine bS ?_ GE268.out) | exact HB.out))))
    have n2_ := aS (q08 (g := gb268) (o := .cells #[.slice (some ad272) l0_0.length c0_0, .bool a0_1] 24 (0, 0)) (by (with_reducible repeat (first | refine kN ?_ _ | refine kD ?_ | refine kA ?_ _)); exact BK268.out) hb)
    have n3_ := aS (q03 (by repeat (first | (with_reducible first | exact HB.out | apply bA | apply bN | apply bD | refine bS ?_ GE268.out) | exact HB.out)) hb)
    clear HO_5
    clear BK268
    clear HB
    have HO_5 := n0_
    have HO277 := n1_
    have BK268 := n2_
    have HB := n3_
    clear n0_ n1_ n2_ n3_
    (try clear hb)
    (try clear hb2)
    (try clear hk)
    (try clear hi)
    (try clear ho0)
    obtain ⟨Ao16, co16, eo16⟩ := Kd.R_slice HO277.out
    (first | subst eo16 | (injection eo16 with f1_ f2_ f3_; have f4_ := f1_.symm; have f5_ := f3_.symm; clear f1_ f2_ f3_; subst f4_; subst f5_))
    refine hK.out _ _ ⟨(q05 BK268.out 0).trans rfl, (q05 BK268.out 1).trans rfl, ((HB.out.cell (World.block_lt_of_cell? w _ hw273_0)).trans hw273_0), ((HB.out.cell (World.block_lt_of_cell? w _ hw273_1)).trans hw273_1), ((HB.out.cell (World.block_lt_of_cell? w _ hw273_2)).trans hw273_2), ((HB.out.cell (World.block_lt_of_cell? w _ hw273_3)).trans hw273_3), ((HB.out.cell (World.block_lt_of_cell? w _ hw273_4)).trans hw273_4), ((HB.out.cell (World.block_lt_of_cell? w _ hw273_5)).trans hw273_5), ((HB.out.cell (World.block_lt_of_cell? w _ hw274_0)).trans hw274_0)⟩ (fun hHeld => ?_)
    clear hK K
    refine norm_ (a' := ?_) ?_ ?_
    rotate_left
    ·show Act.put _ (some 31) _ = _
     simp only [Act.put, s1, s2, s3, q0d, q0e]
     rfl
    refine one_ (i := 12) (N := some 32) #[true, true, true, true, true, true, true, true, true, true, true, true, true, false] rfl rfl (one_of HT_.out (by kernel_rfl)) (by decide) (fun K hK => ?_)
    refine Kd.R_append_rows_step (Kd.int .i64) (w0 := w) w.heap.size (by rfl) (.tmp 20) (.tmp 31) 31 3 (.int .i64 0) 8 rfl Tryd.underlying31 info3 rfl (by decide) (by omega) u5 x5_1 t275 _ _ _ (fun k_ => some k_ ≠ (.slice Ao16 t275.length co16 : Value).ownBlock) (fun _ => False) rfl rfl ?aO ?aR (fun _ _ h => h) (fun _ h => h.elim) ?aF ?aB ?aS ?aL ?_
    (case aR => repeat (first | exact (Kd.R_reads' HO277.out).2.2 | (with_reducible refine cA ?_ _) | (with_reducible refine cN ?_ _) | (with_reducible refine cD ?_)))
    (case aB => exact (by repeat (first | (with_reducible first | exact HB.out | apply bA | apply bN | apply bD | refine bS ?_ GE268.out) | exact HB.out)))
    (case aF => exact (fun k_ hk => Kd.fresh' (Kd.R_lt (by (with_reducible repeat (first | apply rA | apply rN | apply rD)); exact HO277.out)) k_ hk))
    (case aO => exact (by (with_reducible repeat (first | apply rA | apply rN | apply rD)); exact Kd.R_mono HO_5.out (fun _ hk => hk.2)))
    (case aS => exact (q0g (by repeat (first | (with_reducible first | exact HB.out | apply bA | apply bN | apply bD | refine bS ?_ GE268.out) | exact HB.out))))
    (case aL => have := LMc11.out; omega)
    intro v279 w15 ho hb hg hat
    rw [← Ny278.out] at ho
    have n0_ := aS (blk_grown (g := gb268) (o := .cells #[.slice (some ad272) l0_0.length c0_0, .bool a0_1] 24 (0, 0)) (by (with_reducible repeat (first | refine kN ?_ _ | refine kD ?_ | refine kA ?_ _)); exact BK268.out) hg (Kd.R_ne HO_5.out BK268.out (by decide)))
    have n1_ := aS (Kd.R_after (ok := (fun _ => True)) (by (with_reducible repeat (first | apply rA | apply rN | apply rD)); exact HO277.out) hg hat)
    have n2_ := aS (hb)
    have n3_ := aS (ho)
    clear BK268
    clear HO277
    clear HB
    clear HO_5
    have BK268 := n0_
    have HO277 := n1_
    have HB := n2_
    have HO280 := n3_
    clear n0_ n1_ n2_ n3_
    clear ho hb hg hat
    refine hK.out _ _ ⟨(q05 BK268.out 0).trans rfl, (q05 BK268.out 1).trans rfl, ((HB.out.cell (World.block_lt_of_cell? w _ hw273_0)).trans hw273_0), ((HB.out.cell (World.block_lt_of_cell? w _ hw273_1)).trans hw273_1), ((HB.out.cell (World.block_lt_of_cell? w _ hw273_2)).trans hw273_2), ((HB.out.cell (World.block_lt_of_cell? w _ hw273_3)).trans hw273_3), ((HB.out.cell (World.block_lt_of_cell? w _ hw273_4)).trans hw273_4), ((HB.out.cell (World.block_lt_of_cell? w _ hw273_5)).trans hw273_5), ((HB.out.cell (World.block_lt_of_cell? w _ hw274_0)).trans hw274_0)⟩ (fun hHeld => ?_)
    clear hK K
    refine norm_ (a' := ?_) ?_ ?_
    rotate_left
    ·show Act.put _ (some 32) _ = _
     simp only [Act.put, s1, s2, s3, q0d, q0e]
     rfl
    refine q0o (i := 13) (N := some 5) (v := ?_) (a' := ?_) #[true, true, true, true, true, true, true, true, true, true, true, true, true, true] rfl rfl (q0i HT_.out (by kernel_rfl)) (fun _ _ _ h => h) (Or.inl ⟨by rfl, ?_⟩) ?_ ?_
    rotate_left
    ·intro w'
     go_simp
     with_reducible rfl
    rotate_left
    ·simp only [Act.put, s1, s2, s3, q0d, q0e]
     rfl
    refine done_ (done_of HT_.out (by kernel_rfl)) ?_
    try go_wp2
    go_roundg k1
    case measure => have := HK1.out; omega
    case rel => exact ⟨(y278), (wrap64 (x6_1 + 1)), (by first | rfl | (simp; done) | simp [*]), H', ⟨by have := HK1.out; omega⟩, ⟨by (with_reducible repeat (first | apply rA | apply rN | apply rD)); exact Kd.R_mono HO280.out (fun _ hk => trivial)⟩, ⟨by (with_reducible repeat (first | refine kN ?_ _ | refine kD ?_ | refine kA ?_ _)); exact BK268.out⟩, ⟨by repeat (first | (with_reducible first | exact HB.out | apply bA | apply bN | apply bD | refine bS ?_ GE268.out) | exact HB.out)⟩⟩
   case n8 =>
    obtain rfl := Option.some.inj H
    obtain ⟨hczL_0, hczL_1, hfzL_0, hfzL_1⟩ := bk2 BK268.out
    obtain ⟨ad272, A272_2, c272_2, A272_5, c272_5, e272, hx272_0, hx272_1, hx272_2, hx272_3, hx272_4, hx272_5, HC272_2, HR272_2, HC272_5, HR272_5, p272, q272⟩ := q0p HB.out HR0_0.out a1 (by first | with_reducible assumption | assumption) (by first | with_reducible assumption | assumption)
    cases e272
    go_wp2
    go_ret
    exact ⟨_, by first | rfl | (simp [q02, q01] <;> rfl) | (simp [*, q02, q01] <;> rfl), by (with_reducible repeat (first | apply rA | apply rN | apply rD)); exact HO_5.out, by repeat (first | (with_reducible first | exact HB.out | apply bA | apply bN | apply bD | refine bS ?_ GE268.out) | exact HB.out)⟩
end Go.Proofs.YthjnallbbhnndaaDoor.XWp
