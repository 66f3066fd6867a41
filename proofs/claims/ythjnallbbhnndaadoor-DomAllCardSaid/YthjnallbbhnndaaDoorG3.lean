/- Written by this session's program (wip/xp) out of the translation as Lean prints it: for each Go function a Lean function and the proof that the code answers just so, on the conditions named in each statement. -/
import Derived.Test.YthjnallbbhnndaaDoorG2
namespace Go.Proofs.YthjnallbbhnndaaDoor.XDe
open Go.Proofs.YthjnallbbhnndaaDoor.Short Go.RowKit Go.Proofs.YthjnallbbhnndaaDoorW.PrintWords Go.Proofs.YthjnallbbhnndaaDoorW.PrintLast Go.Proofs.YthjnallbbhnndaaDoorW.PrintMore
attribute [local go_sem] q16 q14 q1g q1f q0s q0r q15 q13   -- for this text's walks alone
set_option linter.unusedVariables false
set_option linter.unusedSimpArgs false
def mrow {α : Type} (w0 : World) (d : Kd α) (e : Nat) (own : Bool) (w : World) (base : Nat) (ok : Nat → Prop) (v : Value) (xs : List α) : Prop :=
 match own with
 | true => d.R e w base ok v xs
 | false => ∃ A c, v = .slice A xs.length c ∧ xs.length ≤ c ∧ d.C w0 A xs.length xs
theorem mrow_one {α : Type} {w0 : World} {d : Kd α} {e : Nat} {own : Bool} {w : World} {base : Nat} {ok : Nat → Prop} {v : Value} {xs : List α} (h : mrow w0 d e own w base ok v xs) : ∃ A c, v = .slice A xs.length c := by
 cases own
 ·obtain ⟨A, c, h1, _⟩ := h; exact ⟨A, c, h1⟩
 ·exact Kd.R_slice h
theorem mrow_mono {α : Type} {w0 : World} {d : Kd α} {e : Nat} {own : Bool} {w : World} {base : Nat} {ok ok' : Nat → Prop} {v : Value} {xs : List α} (hok : ∀ k, ok k → ok' k) (h : mrow w0 d e own w base ok v xs) : mrow w0 d e own w base ok' v xs := by
 cases own
 ·exact h
 ·exact Kd.R_mono h hok
theorem mrow_bound {α : Type} {w0 : World} {d : Kd α} {e : Nat} {own : Bool} {w : World} {base : Nat} {ok : Nat → Prop} {v : Value} {xs : List α} (E : List Nat) (hE : ∀ q, q ∈ e :: d.E → q ∈ E) (h : mrow w0 d e own w base ok v xs) :
 mrow w0 d e own w base (fun k => ok k ∧ base ≤ k ∧ k < w.heap.size ∧ ∃ q, q ∈ E ∧ ∃ cells, w.heap[k]? = some (.cells cells q (0, 0))) v xs := by
 cases own
 ·exact h
 ·exact Kd.R_mono (Kd.R_bound h) (fun k hk => by
   obtain ⟨h1, h2, h3, q, hq, hc⟩ := hk
   exact ⟨h1, h2, h3, q, hE q hq, hc⟩)
theorem mrow_move {α : Type} {w0 : World} {d : Kd α} {e : Nat} {own : Bool} {w w1 : World} {base : Nat} {ok : Nat → Prop} {v : Value} {xs : List α} (hm : ∀ k, ok k → w1.heap[k]? = w.heap[k]?) (h : mrow w0 d e own w base ok v xs) : mrow w0 d e own w1 base ok v xs := by
 cases own
 ·exact h
 ·exact Kd.R_move h hm
theorem mrow_lower {α : Type} {w0 : World} {d : Kd α} {e : Nat} {own : Bool} {w : World} {base base' : Nat} {ok : Nat → Prop} {v : Value} {xs : List α} (hb : base' ≤ base) (h : mrow w0 d e own w base ok v xs) : mrow w0 d e own w base' ok v xs := by
 cases own
 ·exact h
 ·exact Kd.R_lower h hb
def mix (w0 : World) : Kd ((Bool × Bool) × S43) where
 sz := 6
 E := k43.E
 K := fun _ _ cs => cs.length = 6 ∧ ∀ u ∈ cs, u.oneCell' = true
 M := fun w base ok x cs => ∃ v2 v5, cs = [.int .i64 x.2.f0, .string x.2.f1, v2, .string x.2.f3, .int .i64 x.2.f4, v5] ∧ mrow w0 k122 122 x.1.1 w base ok v2 x.2.f2 ∧ mrow w0 (Kd.int .i64) 3 x.1.2 w base ok v5 x.2.f5
 K_len := fun h => h.1
 K_one := fun h => h.2
 K_below := fun _ h => h
 K_of_M := fun h => by
  obtain ⟨v2, v5, rfl, h2, h5⟩ := h
  obtain ⟨A2, c2, rfl⟩ := mrow_one h2
  obtain ⟨A5, c5, rfl⟩ := mrow_one h5
  refine ⟨rfl, fun u hu => ?_⟩
  simp only [List.mem_cons, List.not_mem_nil, or_false] at hu
  rcases hu with rfl | rfl | rfl | rfl | rfl | rfl <;> rfl
 M_mono := fun hok h => by
  obtain ⟨v2, v5, rfl, h2, h5⟩ := h
  exact ⟨v2, v5, rfl, mrow_mono hok h2, mrow_mono hok h5⟩
 M_bound := fun h => by
  obtain ⟨v2, v5, rfl, h2, h5⟩ := h
  exact ⟨v2, v5, rfl, mrow_bound _ (by decide) h2, mrow_bound _ (by decide) h5⟩
 M_move := fun hm h => by
  obtain ⟨v2, v5, rfl, h2, h5⟩ := h
  exact ⟨v2, v5, rfl, mrow_move hm h2, mrow_move hm h5⟩
 M_lower := fun hb h => by
  obtain ⟨v2, v5, rfl, h2, h5⟩ := h
  exact ⟨v2, v5, rfl, mrow_lower hb h2, mrow_lower hb h5⟩
theorem mix_done {w0 W : World} {base : Nat} {ok : Nat → Prop} {v : Value} {ns : List S43} (h : Kd.S (mix w0) 43 W base ok v (ns.map fun x => ((true, true), x))) : Kd.S k43 43 W base ok v ns := by
 obtain ⟨f, h0, inner, ho, hr⟩ := h
 rw [List.length_zipIdx, List.length_map] at ho
 refine ⟨f, h0, inner, by rw [List.length_zipIdx]; exact ho, by have := hr.1; rw [List.length_zipIdx, List.length_map] at this; rw [List.length_zipIdx]; exact this, fun j p hj => ?_⟩
 obtain ⟨x, hx, rfl⟩ : ∃ x, ns[j]? = some x ∧ p = (x, j) := by
  rw [List.getElem?_zipIdx, Nat.zero_add] at hj
  cases hn : ns[j]? with
  | none => rw [hn] at hj; cases hj
  | some x => rw [hn] at hj; exact ⟨x, rfl, (Option.some.inj hj).symm⟩
 have hm := hr.2 j (((true, true), x), j) (Kd.zip_at (by rw [List.getElem?_map, hx]; rfl))
 obtain ⟨v2, v5, hcs, h2, h5⟩ := hm
 show k43.M W base _ x ((inner.drop (j * 6)).take 6)
 rw [show (inner.drop (j * 6)).take 6 = _ from hcs]
 exact q28 W base _ x h2 h5
theorem mix_new {w0 W : World} {base : Nat} {ok : Nat → Prop} {v : Value} {ns : List S43} (h : (mix w0).R 43 W base ok v (ns.map fun x => ((false, false), x))) : Kd.S (mix w0) 43 W base ok v (ns.map fun x => ((false, false), x)) := by
 obtain ⟨h0, inner, ho, hr⟩ := h
 refine ⟨fun _ => 0, h0, inner, by rw [List.length_zipIdx]; exact ho, by rw [List.length_zipIdx]; exact hr.1, fun j p hj => ?_⟩
 obtain ⟨x, hx, rfl⟩ : ∃ x, (ns.map fun x => ((false, false), x))[j]? = some x ∧ p = (x, j) := by
  rw [List.getElem?_zipIdx, Nat.zero_add] at hj
  cases hn : (ns.map fun x => ((false, false), x))[j]? with
  | none => rw [hn] at hj; cases hj
  | some x => rw [hn] at hj; exact ⟨x, rfl, (Option.some.inj hj).symm⟩
 have hm := hr.2 j x hx
 rw [List.getElem?_map] at hx
 cases hn : ns[j]? with
 | none => rw [hn] at hx; cases hx
 | some y =>
  rw [hn] at hx
  obtain rfl := Option.some.inj hx
  exact hm
theorem mix_reads {w W : World} {A : Option Addr} {l : List S43} (h : Kd.C k43 w A l.length l) (hb : Below w.heap.size w W) :
 q1c (fun (x : (Bool × Bool) × S43) cs => x.1 = (false, false) ∧ k43.K w x.2 cs) 6 W A l.length (l.map fun x => ((false, false), x)) := by
 obtain ⟨h0, h1, h2⟩ := q1c.imp_ h hb (fun _ _ hp => hp)
 refine ⟨by rw [List.length_map], h1, fun hn => ?_⟩
 obtain ⟨ad, he, hc⟩ := h2 hn
 refine ⟨ad, he, fun j p hj => ?_⟩
 rw [List.getElem?_map] at hj
 cases hx : l[j]? with
 | none => rw [hx] at hj; cases hj
 | some x =>
  rw [hx] at hj
  obtain rfl := Option.some.inj hj
  obtain ⟨c, hl, hp, hcc⟩ := hc j x hx
  exact ⟨c, hl, ⟨rfl, hp⟩, hcc⟩
set_option maxHeartbeats 2000000 in
theorem ed_clone {w0 : World} (A0 : Option Addr) (c0 : Nat) (l0 : List S43) (w : World) (hB : Below w0.heap.size w0 w) (hr0 : Kd.C k43 w0 A0 l0.length l0) (hc0 : l0.length ≤ c0) (hsz0 : l0.length * 96 ≤ 140737488355328) :
 Calls Tryd.prog 139 #[.slice A0 l0.length c0] w fun e w' => ∃ v0_ : Value, e = .returned v0_ ∧ (mix w0).R 43 w' w.heap.size (fun _ => True) v0_ (l0.map fun x => ((false, false), x)) ∧ Below w.heap.size w w' := by
 have hsz := aS hsz0
 clear hsz0
 have hBB := aS hB
 clear hB
 have hC := aS hr0
 clear hr0
 have qnil : ∀ (w : World) (a : Option Addr) (n c n' c' : Nat), (binOp .eql 22 (.slice a n c) (.slice none n' c')).run Tryd.prog w = .ok (.bool a.isNone) w := fun w a n c n' c' => Lib.run_eql_slice_nil w _ _ a n c n' c' Tryd.underlying22
 cases A0 with
 | none =>
  obtain rfl : l0 = [] := by
   cases l0 with
   | nil => rfl
   | cons x t =>
    obtain ⟨ad, he, _⟩ := hC.out.2.2 (by simp)
    cases he
  go_enter Tryd.func139, Tryd.ntmps139
  go_wp2
  go_ret
  exact ⟨_, rfl, Kd.R_nil _ _ _ _ _, Below.refl _ _⟩
 | some ad =>
  go_enter Tryd.func139, Tryd.ntmps139
  go_wp2_with (at_builtin; refine Kd.R_append_rows (mix w0) (Rr := fun x cs => x.1 = (false, false) ∧ k43.K w0 x.2 cs) (w0 := w) w.heap.size rfl (.tmp 5) (.tmp 6) 22 43 (.agg #[.int .i64 0, .string (⟨#[]⟩ : ByteArray), .slice none 0 0, .string (⟨#[]⟩ : ByteArray), .int .i64 0, .slice none 0 0]) 96 rfl Tryd.underlying22 info43 rfl (show 0 < 6 from by decide) (show 0 < 96 from by decide) (.slice (some ⟨w.heap.size, 0, none⟩) 0 0) ([] : List ((Bool × Bool) × S43)) (l0.map fun x => ((false, false), x)) (some ad) _ c0 (fun _ => True) (fun _ => False) rfl rfl ?hO ?hR ?hKM (fun _ hk => hk.elim) (fun _ _ => trivial) ?hB ?hba ?hl ?_)
  case hO => exact ⟨fun _ _ => trivial, [], World.ownsRow_made w #[] 0 (Nat.le_refl _) (Nat.zero_le _) (by simp), Reps.none _ _⟩
  case hR => exact mix_reads hC.out (hBB.out.alloc hBB.out.size _)
  case hKM =>
   rintro ⟨q, x⟩ cs ⟨h1, h2⟩
   obtain rfl : q = (false, false) := h1
   obtain ⟨A2, c2, A5, c5, rfl, l2, g2, l5, g5⟩ := k43_open h2
   exact ⟨_, _, rfl, ⟨A2, c2, rfl, l2, g2⟩, ⟨A5, c5, rfl, l5, g5⟩⟩
  case hB => exact (Below.refl _ w).alloc (Nat.le_refl _) _
  case hba => simp
  case hl => have := hsz.out; simpa using this
  intro v1 w1 hown hb hg hat
  go_wp2
  go_ret
  exact ⟨_, rfl, by simpa using hown, hb⟩
def mixl (i : Nat) (ns : List S43) : List ((Bool × Bool) × S43) := ns.zipIdx.map fun p => ((decide (p.2 < i), decide (p.2 < i)), p.1)
theorem mixl_zero (ns : List S43) : mixl 0 ns = ns.map fun x => ((false, false), x) := by
 unfold mixl
 apply List.ext_getElem?
 intro j
 simp only [List.getElem?_map, List.getElem?_zipIdx, Nat.zero_add]
 cases ns[j]? <;> simp
theorem mixl_all (ns : List S43) (i : Nat) (h : ns.length ≤ i) : mixl i ns = ns.map fun x => ((true, true), x) := by
 unfold mixl
 apply List.ext_getElem?
 intro j
 simp only [List.getElem?_map, List.getElem?_zipIdx, Nat.zero_add]
 cases hx : ns[j]? with
 | none => rfl
 | some x =>
  have hj : j < i := Nat.lt_of_lt_of_le (List.getElem?_eq_some_iff.1 hx).1 h
  simp [hj]
theorem mixl_length (i : Nat) (ns : List S43) : (mixl i ns).length = ns.length := by simp [mixl]
theorem mixl_succ (i : Nat) (ns : List S43) (h : i < ns.length) : (mixl i ns).set i ((true, true), ns[i]) = mixl (i + 1) ns := by
 unfold mixl
 apply List.ext_getElem?
 intro j
 by_cases e : i = j
 ·subst e
  rw [List.getElem?_set_self (by simpa using h)]
  simp [h]
 ·rw [List.getElem?_set_ne e]
  simp only [List.getElem?_map, List.getElem?_zipIdx, Nat.zero_add]
  cases ns[j]? with
  | none => rfl
  | some x =>
   have : (j < i + 1) = (j < i) := by apply propext; omega
   simp [this]
theorem mixl_at (i : Nat) (ns : List S43) (h : i < ns.length) (z : (Bool × Bool) × S43) : (mixl i ns).getD i z = ((false, false), ns[i]) := by
 unfold mixl
 rw [List.getD_eq_getElem?_getD]
 simp [h]
theorem below_frozen {w w1 : World} {a : Addr} {v : Value} (hb : Below w.heap.size w w1) (hc : w.cell? a = some v) : w1.frozen? a = w.frozen? a := by
 unfold World.frozen?
 rw [hb.block a.block (World.block_lt_of_cell? w a hc)]
theorem below_call {W w7 : World} (h : Below W.drew.heap.size W.drew w7) : Below W.heap.size W w7 := q01 (q0g (Below.refl _ _)) h
theorem own_step {w W w7 w8 : World} {b c i base : Nat} {okf : Nat → Prop} {ns : List S43} {v7 v8 : Value} (HV : Kd.S (mix w) 43 W base okf (.slice (some ⟨b, 0, none⟩) ns.length c) (mixl i ns)) (hi : i < ns.length) (hbase : base ≤ W.heap.size) (hokf : ∀ k, W.heap.size ≤ k → okf k)
 (hb7 : Below W.heap.size W w7) (h2 : k122.R 122 w7 W.heap.size (fun _ => True) v7 ns[i].f2) (hb8 : Below w7.heap.size w7 w8) (h5 : (Kd.int .i64).R 3 w8 w7.heap.size (fun _ => True) v8 ns[i].f5) :
 Kd.S (mix w) 43 ((w8.setCell ⟨b, i * 6 + 2, none⟩ v7).setCell ⟨b, i * 6 + 5, none⟩ v8) base okf (.slice (some ⟨b, 0, none⟩) ns.length c) (mixl (i + 1) ns) := by
 have h0 : (0 : Int) ≤ (i : Int) := by omega
 have h1 : (i : Int) < (ns.length : Int) := by omega
 obtain ⟨oki, cs, _, hM, _, _, _, hH⟩ := Kd.S_elem HV ((false, false), z43) (i : Int) h0 h1
 rw [Int.toNat_natCast, mixl_at i ns hi] at hM
 obtain ⟨v2, v5, rfl, -, -⟩ := hM
 have hbW := Kd.R_lt (Kd.S_R HV) b (by simp [Value.ownBlock])
 have g2 : k122.R 122 w8 base (fun k => W.heap.size ≤ k) v7 ns[i].f2 := Kd.R_mono (Kd.R_lower (Kd.R_bound (Kd.R_below h2 hb8)) hbase) (fun k hk => hk.2.1)
 have g5 : (Kd.int .i64).R 3 w8 base (fun k => W.heap.size ≤ k) v8 ns[i].f5 := Kd.R_mono (Kd.R_lower (Kd.R_bound h5) (Nat.le_trans hbase (Below.size hb7))) (fun k hk => Nat.le_trans (Below.size hb7) hk.2.1)
 obtain ⟨A7, c7, rfl⟩ := Kd.R_slice g2
 obtain ⟨A8, c8, rfl⟩ := Kd.R_slice g5
 obtain ⟨h3, -⟩ := Kd.H_seg (Kd.H_below (Kd.H_widen hH) (q01 hb7 hb8)) h0 h1 (seg := [.slice A7 ns[i].f2.length c7]) (j := 2) (show 2 + 1 ≤ 6 by decide) (by simp [Value.oneCell'])
 obtain ⟨h4, -⟩ := Kd.H_seg h3 h0 h1 (seg := [.slice A8 ns[i].f5.length c8]) (j := 5) (show 5 + 1 ≤ 6 by decide) (by simp [Value.oneCell'])
 have hfar : ∀ k, W.heap.size ≤ k → k ≠ b := fun k hk e => by omega
 have h6 := Kd.H_back h4 (x' := ((true, true), ns[i])) (okp := fun k => W.heap.size ≤ k) ⟨_, _, rfl, Kd.R_far (Kd.R_far g2 hfar _) hfar _, Kd.R_far (Kd.R_far g5 hfar _) hfar _⟩ (fun k hk => .inr ⟨hokf k hk, hk⟩)
 rw [Int.toNat_natCast, mixl_succ i ns hi] at h6
 exact h6
set_option maxHeartbeats 8000000 in
set_option maxRecDepth 100000 in
theorem ed_own (A : Option Addr) (c : Nat) (ns : List S43) (q : Bool) (w : World) (hr0 : Kd.C k43 w A ns.length ns) (hc0 : ns.length ≤ c) (hsz : ns.length * 96 ≤ 140737488355328) (hin : ∀ x ∈ ns, x.f2.length * 32 ≤ 140737488355328 ∧ x.f5.length * 8 ≤ 140737488355328) :
 Calls Tryd.prog 104 #[.agg #[.slice A ns.length c, .bool q]] w fun e w' => ∃ v, e = .returned (.agg #[v, .bool q]) ∧ Kd.S k43 43 w' w.heap.size (fun _ => True) v ns ∧ Below w.heap.size w w' := by
 have hu24 := Tryd.underlying24
 have hu43 := Tryd.underlying43
 have hu22 := Tryd.underlying22
 have HC := aS hr0
 have HL := aS hc0
 have HS := aS hsz
 have HN := aS hin
 clear hr0 hc0 hsz hin
 go_enter Tryd.func104, Tryd.ntmps104
 go_upto_region 1 with (first | ((with_reducible refine q07 (N := 1) rfl ?_); refine box1 rfl (N := 1) rfl (cs := #[.slice A ns.length c, .bool q]) (t := 24) zh ?_; intro gd wd DK GD DS) | ((with_reducible refine q07 (N := 2) rfl ?_); refine box1 rfl (N := 2) rfl (cs := #[.slice none 0 0, .bool false]) (t := 24) zh ?_; intro gr wr RK GS RS))
 have HB := aS (q01 DS.out RS.out)
 have DK1 := aS (q02 DK.out RS.out)
 clear DK
 have DK := DK1
 clear DK1
 obtain ⟨hd0, hd1, -, -⟩ := bk2 DK.out
 simp only [Act.put, s1, s2, s3]
 go_cut [3] (fun v3 wq => ∃ (go : Nat) (v : Value), v3 = .pointer (some ⟨go, 0, none⟩) ∧ Aside0 (wq.heap[go]? = some (.cells #[v, .bool q] 24 (0, 0))) ∧ Aside0 (w.heap.size ≤ go) ∧ Aside0 (go ≠ gr) ∧ Aside0 (Kd.S (mix w) 43 wq w.heap.size (fun k => k ≠ gr ∧ k ≠ go) v (mixl 0 ns)) ∧ Aside0 (Below w.heap.size w wq) ∧ Aside0 (wq.heap[gr]? = some (.cells #[.slice none 0 0, .bool false] 24 (0, 0))))
 case first =>
  have hd0a := Lib.cell?_alloc_some (o := Obj.cells #[.slice none 0 0, .bool false] 24) hd0
  have hd1a := Lib.cell?_alloc_some (o := Obj.cells #[.slice none 0 0, .bool false] 24) hd1
  go_region_law (first | (go_simp; go_at_call 139; refine (ed_clone (w0 := w) A c ns _ (z8 HB.out) HC.out HL.out HS.out).mono ?_; rintro e w7 ⟨v7, rfl, hr7, hbl⟩; obtain ⟨Av, cv, ev_⟩ := Kd.R_slice hr7; rw [List.length_map] at ev_; subst ev_; have HV1 := aS (show Kd.R (mix w) 43 w7 w.heap.size (fun k => k ≠ gr ∧ k < w7.heap.size) (.slice Av ns.length cv) (ns.map fun x => ((false, false), x)) from Kd.R_mono (Kd.R_lower (Kd.R_bound hr7) (Below.size (z8 HB.out))) (fun k hk_ => ⟨fun e_ => absurd (e_ ▸ hk_.2.1) (Nat.not_le.2 (q0a (g := gr) (o := (.cells #[.slice none 0 0, .bool false] 24 (0, 0))) (by repeat (first | exact RK.out | refine blk_drewN ?_ _ | refine q2c ?_ | refine q02 ?_ (q0i (Below.refl _ _) _))))), hk_.2.2.1⟩)); (try have HW1 := aS (show Kd.R (mix w) 43 w7 w.heap.size (fun k => k ≠ gr ∧ k ≠ wr.heap.size) (.slice Av ns.length cv) (ns.map fun x => ((false, false), x)) from Kd.R_mono (Kd.R_lower (Kd.R_bound hr7) (Below.size (z8 HB.out))) (fun k hk_ => ⟨fun e_ => absurd (e_ ▸ hk_.2.1) (Nat.not_le.2 (q0a (g := gr) (o := .cells #[.slice none 0 0, .bool false] 24 (0, 0)) (by repeat (first | exact RK.out | refine blk_drewN ?_ _ | refine q2c ?_ | refine q02 ?_ (q0i (Below.refl _ _) _))))), fun e_ => by have h1_ : (wr.alloc (Obj.cells #[.slice none 0 0, .bool false] 24)).drew.heap.size ≤ k := hk_.2.1; have h2_ : (wr.alloc (Obj.cells #[.slice none 0 0, .bool false] 24)).drew.heap.size = wr.heap.size + 1 := (by simp); omega⟩))); (try have GK1 := aS (q02 (g := wr.heap.size) (o := .cells #[.slice none 0 0, .bool false] 24 (0, 0)) (w := (wr.alloc (Obj.cells #[.slice none 0 0, .bool false] 24)).drew) (q2c (blk_new wr _)) hbl)); have RK1 := aS (q02 (g := gr) (o := (.cells #[.slice none 0 0, .bool false] 24 (0, 0))) (by repeat (first | exact RK.out | refine blk_drewN ?_ _ | refine q2c ?_ | refine q02 ?_ (q0i (Below.refl _ _) _))) hbl); have DK1 := aS (q02 (g := gd) (o := .cells #[.slice A ns.length c, .bool q] 24 (0, 0)) (by repeat (first | exact DK.out | refine blk_drewN ?_ _ | refine q2c ?_ | refine q02 ?_ (q0i (Below.refl _ _) _))) hbl); have HB1 := aS (q01 (z8 HB.out) hbl); clear DK hd0 hd1 hd0a hd1a hr7 hbl; have DK := DK1; clear DK1; obtain ⟨hd0, hd1, -, -⟩ := bk2 DK.out; have hd0a := Lib.cell?_alloc_some (o := Obj.cells #[.slice none 0 0, .bool false] 24) hd0; have hd1a := Lib.cell?_alloc_some (o := Obj.cells #[.slice none 0 0, .bool false] 24) hd1; (try (have hg_ := bk2 GK1.out; obtain ⟨hg0, hg1, hgf0, hgf1⟩ := hg_))))
  go_wp2
  all_goals
   go_meet
   case rel =>
    first
     | exact ⟨w7.heap.size, _, rfl, ⟨blk_new _ _⟩, ⟨Below.size HB1.out⟩, ⟨Nat.ne_of_gt (q0a RK1.out)⟩, ⟨by rw [mixl_zero]; exact mix_new (Kd.R_below (Kd.R_mono HV1.out (fun k hk => ⟨hk.1, Nat.ne_of_lt hk.2⟩)) (q0i (Below.refl _ _) _))⟩, ⟨q01 HB1.out (q0i (Below.refl _ _) _)⟩, ⟨q02 RK1.out (q0i (Below.refl _ _) _)⟩⟩
     | exact ⟨wr.heap.size, _, rfl, ⟨q0h (q0h GK1.out 0 _) 1 _⟩, ⟨Below.size HB.out⟩, ⟨Nat.ne_of_gt (q0a RK.out)⟩, ⟨by rw [mixl_zero]; exact mix_new (Kd.R_far (Kd.R_far HW1.out (fun k hk => hk.2) _) (fun k hk => hk.2) _)⟩, ⟨q08 (q08 HB1.out (Below.size HB.out)) (Below.size HB.out)⟩, ⟨(Below.heap_setCell _ _ _ gr (Nat.ne_of_lt (q0a RK.out))).trans ((Below.heap_setCell _ _ _ gr (Nat.ne_of_lt (q0a RK.out))).trans RK1.out)⟩⟩
 case rest =>
  clear DK hd0 hd1 HB RK
  obtain ⟨go, v, rfl, GK, GE, NG, HV, HB, RK⟩ := hcut
  obtain ⟨Av, cv, rfl⟩ := Kd.R_slice (Kd.S_R HV.out)
  rw [mixl_length] at GK HV
  obtain ⟨hg0, hg1, hgf0, hgf1⟩ := bk2 GK.out
  go_wp2
  go_loopg [15] ns.length (fun kq v15 w' => ∃ (i : Nat), v15 = .int .i64 (i : Int) ∧ Aside0 (i + kq = ns.length) ∧ Aside0 (w'.heap[go]? = some (.cells #[.slice Av ns.length cv, .bool q] 24 (0, 0))) ∧ Aside0 (Kd.S (mix w) 43 w' w.heap.size (fun k => k ≠ gr ∧ k ≠ go) (.slice Av ns.length cv) (mixl i ns)) ∧ Aside0 (Below w.heap.size w w') ∧ Aside0 (w'.heap[gr]? = some (.cells #[.slice none 0 0, .bool false] 24 (0, 0))))
  case atStart => exact ⟨0, rfl, ⟨Nat.zero_add _⟩, GK, HV, HB, RK⟩
  case round =>
   clear GK HV HB RK hg0 hg1 hgf0 hgf1
   obtain ⟨i, rfl, HK1, GK, HV, HB, RK⟩ := hrel
   obtain ⟨hg0, hg1, hgf0, hgf1⟩ := bk2 GK.out
   obtain ⟨hr0, hr1, hrf0, hrf1⟩ := bk2 RK.out
   cases gk with
   | zero =>
    obtain rfl : i = ns.length := by have := HK1.out; omega
    have c1 : decide ((ns.length : Int) < (ns.length : Int)) = false := decide_eq_false (Int.lt_irrefl _)
    go_wp2
    have GR := aS (show w.heap.size ≤ gr from Nat.le_trans (Below.size DS.out) GS.out)
    refine bodyPost_ret (results_cell_row rfl _ _ gr 24 #[.slice Av ns.length cv, .bool q] (0, 0) _ rfl (q0h (q0h RK.out 0 _) 1 _) Tryd.underlying24 rfl (by kernel_rfl)) rfl ?_
    refine ⟨_, rfl, ?_, q08 (q08 HB.out GR.out) GR.out⟩
    rw [mixl_all _ _ (Nat.le_refl _)] at HV
    exact Kd.S_mono (Kd.S_far (Kd.S_far (mix_done HV.out) (fun _ hk => hk.1) _) (fun _ hk => hk.1) _) (fun _ _ => trivial)
   | succ k1 =>
    have hin : i < ns.length := by have := HK1.out; omega
    have HIN := aS hin
    have c1 : decide ((i : Int) < (ns.length : Int)) = true := decide_eq_true (by omega)
    obtain ⟨b, cap, e_, -, -, -⟩ := Kd.R_form (Kd.S_R HV.out) (by rw [mixl_length]; omega)
    obtain rfl : Av = some ⟨b, 0, none⟩ := by injection e_
    clear e_
    obtain ⟨oki, cs, _, hM, hcc, hfz, hok, hH⟩ := Kd.S_elem HV.out ((false, false), z43) (i : Int) (by omega) (by omega)
    rw [Int.toNat_natCast, mixl_at i ns hin] at hM
    obtain ⟨v2, v5, rfl, ⟨A2, c2, rfl, l2, C2⟩, ⟨A5, c5, rfl, l5, C5⟩⟩ := hM
    have x2 := hcc 2 _ rfl
    have x5 := hcc 5 _ rfl
    have hj0 : decide ((0 : Int) ≤ (i : Int)) = true := decide_eq_true (by omega)
    have HH := aS hH
    have HOK := aS hok
    have HFZ := aS hfz
    have HC2 := aS C2
    have HC5 := aS C5
    have HL2 := aS l2
    have HL5 := aS l5
    clear hH hok hfz C2 C5 l2 l5 hcc
    have HS2 : Aside0 (api_Attr_80.f ns[i].f2 = some ns[i].f2) := ⟨if_pos (HN.out ns[i] (List.getElem_mem hin)).1⟩
    have HS5 : Aside0 (slices_Clone_int_int.f ns[i].f5 = some ns[i].f5) := ⟨if_pos (HN.out ns[i] (List.getElem_mem hin)).2⟩
    have z2 : wr.frozen? ⟨b, i * 6 + 2, none⟩ = false := HFZ.out 2
    have z5 : wr.frozen? ⟨b, i * 6 + 5, none⟩ = false := HFZ.out 5
    go_upto_region 6 with (fail)
    refine start_ (n := 18) (S := fun w' => w'.cell? ⟨b, i * 6 + 2, none⟩ = some (.slice A2 ns[i].f2.length c2) ∧ w'.cell? ⟨b, i * 6 + 5, none⟩ = some (.slice A5 ns[i].f5.length c5)) (ds := [14, 17]) #[false, false, false, false, false, false, false, false, false, false, false, false, false, false, false, false, false, false] (by kernel_rfl) rfl rfl ⟨x2, x5⟩ (fun hHeld => ?_)
    refine q0n (i := 0) (N := some 22) (v := ?_) (a' := ?_) #[true, false, false, false, false, false, false, false, false, false, false, false, false, false, false, false, false, false] rfl rfl (by kernel_rfl) (fun _ _ _ h => h) (Or.inl ⟨by rfl, ?_⟩) ?_ ?_
    rotate_left
    ·intro w'
     go_simp
     with_reducible rfl
    rotate_left
    ·simp only [Act.put, s1, s2, s3, q0d, q0e]
     rfl
    refine q0n (i := 1) (N := some 23) (v := ?_) (a' := ?_) #[true, true, false, false, false, false, false, false, false, false, false, false, false, false, false, false, false, false] rfl rfl (by kernel_rfl) (fun _ _ _ h => h) (Or.inl ⟨by rfl, ?_⟩) ?_ ?_
    rotate_left
    ·intro w'
     go_simp
     with_reducible rfl
    rotate_left
    ·simp only [Act.put, s1, s2, s3, q0d, q0e]
     rfl
    refine q0n (i := 2) (N := some 24) (v := ?_) (a' := ?_) #[true, true, true, false, false, false, false, false, false, false, false, false, false, false, false, false, false, false] rfl rfl (by kernel_rfl) (fun _ _ _ h => h) (Or.inl ⟨by rfl, ?_⟩) ?_ ?_
    rotate_left
    ·intro w'
     go_simp
     with_reducible rfl
    rotate_left
    ·simp only [Act.put, s1, s2, s3, q0d, q0e]
     rfl
    refine q0n (i := 3) (N := some 25) (v := ?_) (a' := ?_) #[true, true, true, true, false, false, false, false, false, false, false, false, false, false, false, false, false, false] rfl rfl (by kernel_rfl) (fun _ _ _ h => h) (Or.inl ⟨by rfl, ?_⟩) ?_ ?_
    rotate_left
    ·intro w'
     go_simp
     with_reducible rfl
    rotate_left
    ·simp only [Act.put, s1, s2, s3, q0d, q0e]
     rfl
    refine q0n (i := 4) (N := some 26) (v := ?_) (a' := ?_) #[true, true, true, true, true, false, false, false, false, false, false, false, false, false, false, false, false, false] rfl rfl (by kernel_rfl) (fun _ _ _ h => h) (Or.inl ⟨by rfl, ?_⟩) ?_ ?_
    rotate_left
    ·intro w'
     go_simp
     with_reducible rfl
    rotate_left
    ·simp only [Act.put, s1, s2, s3, q0d, q0e]
     rfl
    refine q0n (i := 7) (N := some 29) (v := ?_) (a' := ?_) #[true, true, true, true, true, false, false, true, false, false, false, false, false, false, false, false, false, false] rfl rfl (by kernel_rfl) (fun _ _ _ h => h) (Or.inl ⟨by rfl, ?_⟩) ?_ ?_
    rotate_left
    ·intro w'
     go_simp
     with_reducible rfl
    rotate_left
    ·simp only [Act.put, s1, s2, s3, q0d, q0e]
     rfl
    refine q0n (i := 8) (N := some 30) (v := ?_) (a' := ?_) #[true, true, true, true, true, false, false, true, true, false, false, false, false, false, false, false, false, false] rfl rfl (by kernel_rfl) (fun _ _ _ h => h) (Or.inl ⟨by rfl, ?_⟩) ?_ ?_
    rotate_left
    ·intro w'
     go_simp
     with_reducible rfl
    rotate_left
    ·simp only [Act.put, s1, s2, s3, q0d, q0e]
     rfl
    refine q0n (i := 9) (N := some 31) (v := ?_) (a' := ?_) #[true, true, true, true, true, false, false, true, true, true, false, false, false, false, false, false, false, false] rfl rfl (by kernel_rfl) (fun _ _ _ h => h) (Or.inl ⟨by rfl, ?_⟩) ?_ ?_
    rotate_left
    ·intro w'
     go_simp
     with_reducible rfl
    rotate_left
    ·simp only [Act.put, s1, s2, s3, q0d, q0e]
     rfl
    refine take_ (i := 5) (N := some 27) (v := ?_) (a' := ?_) #[true, true, true, true, true, true, false, true, true, true, false, false, false, false, false, false, false, false] rfl rfl (by kernel_rfl) (fun _ _ _ h => h) (Or.inl ⟨by rfl, ?_⟩) hHeld ?_ ?_
    rotate_left
    ·rintro w' ⟨s0, s1⟩
     go_simp
     with_reducible rfl
    rotate_left
    ·simp only [Act.put, s1, s2, s3, q0d, q0e]
     rfl
    refine take_ (i := 10) (N := some 32) (v := ?_) (a' := ?_) #[true, true, true, true, true, true, false, true, true, true, true, false, false, false, false, false, false, false] rfl rfl (by kernel_rfl) (fun _ _ _ h => h) (Or.inl ⟨by rfl, ?_⟩) hHeld ?_ ?_
    rotate_left
    ·rintro w' ⟨s0, s1⟩
     go_simp
     with_reducible rfl
    rotate_left
    ·simp only [Act.put, s1, s2, s3, q0d, q0e]
     rfl
    refine one_ (i := 6) (N := some 28) #[true, true, true, true, true, true, true, true, true, true, true, false, false, false, false, false, false, false] rfl rfl (by kernel_rfl) (by decide) (fun K hK => ?_)
    refine goes_ Tryd.func80 (by kernel_rfl) rfl #[.slice A2 ns[i].f2.length c2] (by rfl) rfl rfl (by simp only [List.map_toArray, List.map_cons, List.map_nil]; rfl) ?_
    with_reducible refine (api_Attr_80.calls A2 c2 ns[i].f2 ns[i].f2 _ (Kd.C_below HC2.out (q0g HB.out)) HL2.out HS2.out).mono ?_
    rintro e w7 ⟨v7, rfl, hr7, hbl⟩
    refine ⟨_, rfl, ?_⟩
    obtain ⟨A7, c7, e7_⟩ := Kd.R_slice hr7
    subst e7_
    have HM7 := aS (below_call hbl)
    have HR7 := aS hr7
    have HB7 := aS (q01 HB.out HM7.out)
    clear hr7 hbl
    have z2' : w7.frozen? ⟨b, i * 6 + 2, none⟩ = false := (below_frozen HM7.out x2).trans z2
    have z5' : w7.frozen? ⟨b, i * 6 + 5, none⟩ = false := (below_frozen HM7.out x5).trans z5
    have y2 : w7.cell? ⟨b, i * 6 + 2, none⟩ = some (.slice A2 ns[i].f2.length c2) := (HM7.out.cell (World.block_lt_of_cell? _ _ x2)).trans x2
    have y5 : w7.cell? ⟨b, i * 6 + 5, none⟩ = some (.slice A5 ns[i].f5.length c5) := (HM7.out.cell (World.block_lt_of_cell? _ _ x5)).trans x5
    clear x2 x5 z2 z5
    have x2 := y2
    have x5 := y5
    have z2 := z2'
    have z5 := z5'
    clear y2 y5 z2' z5'
    refine hK.out _ _ ⟨x2, x5⟩ (fun hHeld => ?_)
    clear hK K
    refine q1n (a' := ?_) ?_ ?_
    rotate_left
    ·show Act.put _ (some 28) _ = _
     simp only [Act.put, s1, s2, s3, q0d, q0e]
     rfl
    refine one_ (i := 11) (N := some 33) #[true, true, true, true, true, true, true, true, true, true, true, true, false, false, false, false, false, false] rfl rfl (by kernel_rfl) (by decide) (fun K hK => ?_)
    refine goes_ Tryd.func81 (by kernel_rfl) rfl #[.slice A5 ns[i].f5.length c5] (by rfl) rfl rfl (by simp only [List.map_toArray, List.map_cons, List.map_nil]; rfl) ?_
    with_reducible refine (slices_Clone_int_int.calls A5 c5 ns[i].f5 ns[i].f5 _ (Kd.C_below HC5.out HB7.out) HL5.out HS5.out).mono ?_
    rintro e w8 ⟨v8, rfl, hr8, hbl⟩
    refine ⟨_, rfl, ?_⟩
    obtain ⟨A8, c8, e8_⟩ := Kd.R_slice hr8
    subst e8_
    have HM8 := aS hbl
    have HR8 := aS hr8
    clear hr8 hbl
    have z2' : w8.frozen? ⟨b, i * 6 + 2, none⟩ = false := (below_frozen HM8.out x2).trans z2
    have z5' : w8.frozen? ⟨b, i * 6 + 5, none⟩ = false := (below_frozen HM8.out x5).trans z5
    have y2 : w8.cell? ⟨b, i * 6 + 2, none⟩ = some (.slice A2 ns[i].f2.length c2) := (HM8.out.cell (World.block_lt_of_cell? _ _ x2)).trans x2
    have y5 : w8.cell? ⟨b, i * 6 + 5, none⟩ = some (.slice A5 ns[i].f5.length c5) := (HM8.out.cell (World.block_lt_of_cell? _ _ x5)).trans x5
    clear x2 x5 z2 z5
    have x2 := y2
    have x5 := y5
    have z2 := z2'
    have z5 := z5'
    clear y2 y5 z2' z5'
    refine hK.out _ _ ⟨x2, x5⟩ (fun hHeld => ?_)
    clear hK K
    refine q1n (a' := ?_) ?_ ?_
    rotate_left
    ·show Act.put _ (some 33) _ = _
     simp only [Act.put, s1, s2, s3, q0d, q0e]
     rfl
    refine q0n (i := 12) (N := some 34) (v := ?_) (a' := ?_) #[true, true, true, true, true, true, true, true, true, true, true, true, true, false, false, false, false, false] rfl rfl (by kernel_rfl) (fun _ _ _ h => h) (Or.inl ⟨by rfl, ?_⟩) ?_ ?_
    rotate_left
    ·intro w'
     go_simp
     with_reducible rfl
    rotate_left
    ·simp only [Act.put, s1, s2, s3, q0d, q0e]
     rfl
    refine q0n (i := 13) (N := some 35) (v := ?_) (a' := ?_) #[true, true, true, true, true, true, true, true, true, true, true, true, true, true, false, false, false, false] rfl rfl (by kernel_rfl) (fun _ _ _ h => h) (Or.inl ⟨by rfl, ?_⟩) ?_ ?_
    rotate_left
    ·intro w'
     go_simp
     with_reducible rfl
    rotate_left
    ·simp only [Act.put, s1, s2, s3, q0d, q0e]
     rfl
    refine last_ (i := 14) (N := none) #[true, true, true, true, true, true, true, true, true, true, true, true, true, true, true, false, false, false] rfl rfl (by kernel_rfl) (by decide) (fun K hK => ?_)
    refine skip_ (w1 := ?_) (by rfl) rfl ?_ ?_
    rotate_left
    ·go_simp
     rfl
    refine hK.out _ _ ?_
    clear hK K
    refine q0n (i := 15) (N := some 36) (v := ?_) (a' := ?_) #[true, true, true, true, true, true, true, true, true, true, true, true, true, true, true, true, false, false] rfl rfl (by kernel_rfl) (fun _ _ _ h => h) (Or.inl ⟨by rfl, ?_⟩) ?_ ?_
    rotate_left
    ·intro w'
     go_simp
     with_reducible rfl
    rotate_left
    ·simp only [Act.put, s1, s2, s3, q0d, q0e]
     rfl
    refine q0n (i := 16) (N := some 37) (v := ?_) (a' := ?_) #[true, true, true, true, true, true, true, true, true, true, true, true, true, true, true, true, true, false] rfl rfl (by kernel_rfl) (fun _ _ _ h => h) (Or.inl ⟨by rfl, ?_⟩) ?_ ?_
    rotate_left
    ·intro w'
     go_simp
     with_reducible rfl
    rotate_left
    ·simp only [Act.put, s1, s2, s3, q0d, q0e]
     rfl
    refine last_ (i := 17) (N := none) #[true, true, true, true, true, true, true, true, true, true, true, true, true, true, true, true, true, true] rfl rfl (by kernel_rfl) (by decide) (fun K hK => ?_)
    refine skip_ (w1 := ?_) (by rfl) rfl ?_ ?_
    rotate_left
    ·go_simp
     rfl
    refine hK.out _ _ ?_
    clear hK K
    refine done_ (by kernel_rfl) ?_
    clear x2 x5 z2 z5 hHeld hg0 hg1 hgf0 hgf1 hr0 hr1 hrf0 hrf1
    have HI1 : wrap64 ((i : Int) + 1) = ((i + 1 : Nat) : Int) := by have := HIN.out; have := HS.out; unfold wrap64; omega
    have BS := Kd.S_base HV.out b (by simp [Value.ownBlock])
    have BN := (Kd.S_R HV.out).1 b (by simp [Value.ownBlock])
    have WN : go < wr.heap.size ∧ gr < wr.heap.size := ⟨q0a GK.out, q0a RK.out⟩
    have HV1 := aS (own_step HV.out HIN.out (Below.size HB.out) (fun k hk => ⟨by omega, by omega⟩) HM7.out HR7.out HM8.out HR8.out)
    have HB1 := aS (q08 (j := i * 6 + 5) (v := .slice A8 ns[i].f5.length c8) (q08 (j := i * 6 + 2) (v := .slice A7 ns[i].f2.length c7) (q01 HB7.out HM8.out) BS) BS)
    have GK1 := aS ((Below.heap_setCell (w8.setCell ⟨b, i * 6 + 2, none⟩ (.slice A7 ns[i].f2.length c7)) ⟨b, i * 6 + 5, none⟩ (.slice A8 ns[i].f5.length c8) go (fun e_ => BN.2 e_.symm)).trans ((Below.heap_setCell w8 ⟨b, i * 6 + 2, none⟩ (.slice A7 ns[i].f2.length c7) go (fun e_ => BN.2 e_.symm)).trans (q02 (q02 GK.out HM7.out) HM8.out)))
    have RK1 := aS ((Below.heap_setCell (w8.setCell ⟨b, i * 6 + 2, none⟩ (.slice A7 ns[i].f2.length c7)) ⟨b, i * 6 + 5, none⟩ (.slice A8 ns[i].f5.length c8) gr (fun e_ => BN.1 e_.symm)).trans ((Below.heap_setCell w8 ⟨b, i * 6 + 2, none⟩ (.slice A7 ns[i].f2.length c7) gr (fun e_ => BN.1 e_.symm)).trans (q02 (q02 RK.out HM7.out) HM8.out)))
    generalize (w8.setCell ⟨b, i * 6 + 2, none⟩ (.slice A7 ns[i].f2.length c7)).setCell ⟨b, i * 6 + 5, none⟩ (.slice A8 ns[i].f5.length c8) = wz at HV1 HB1 GK1 RK1 ⊢
    go_wp2
    go_roundg k1
    case measure => have := HK1.out; omega
    case rel => exact ⟨i + 1, by first | rfl | simp only [HI1] | exact congrArg _ HI1, ⟨by have := HK1.out; omega⟩, GK1, HV1, HB1, RK1⟩
def edFn (g : Nat) (d : Int) : Value := if d = 1 then .func (.func 161) #[.pointer (some ⟨g, 0, none⟩)] #[] else if d = 2 then .func (.func 162) #[.pointer (some ⟨g, 0, none⟩)] #[] else if d = 3 then .func (.func 163) #[.pointer (some ⟨g, 0, none⟩)] #[] else if d = 4 then .func (.func 164) #[.pointer (some ⟨g, 0, none⟩)] #[] else if d = 5 then .func (.func 165) #[.pointer (some ⟨g, 0, none⟩)] #[] else if d = 6 then .func (.func 166) #[.pointer (some ⟨g, 0, none⟩)] #[] else .nilFunc
set_option maxHeartbeats 4000000 in
set_option maxRecDepth 100000 in
theorem ed_does (W : World) (g : Nat) (d : Int) :
 Calls Tryd.prog 140 #[.pointer (some ⟨g, 0, none⟩), .int .i64 d] W fun e w' => e = .returned (edFn g d) ∧ w' = W := by
 by_cases n1 : d = 1
 ·subst n1
  go_enter Tryd.func140, Tryd.ntmps140
  go_wp2
  go_ret
  exact ⟨rfl, rfl⟩
 ·
  by_cases n2 : d = 2
  ·subst n2
   go_enter Tryd.func140, Tryd.ntmps140
   go_wp2
   go_ret
   exact ⟨rfl, rfl⟩
  ·
   by_cases n3 : d = 3
   ·subst n3
    go_enter Tryd.func140, Tryd.ntmps140
    go_wp2
    go_ret
    exact ⟨rfl, rfl⟩
   ·
    by_cases n4 : d = 4
    ·subst n4
     go_enter Tryd.func140, Tryd.ntmps140
     go_wp2
     go_ret
     exact ⟨rfl, rfl⟩
    ·
     by_cases n5 : d = 5
     ·subst n5
      go_enter Tryd.func140, Tryd.ntmps140
      go_wp2
      go_ret
      exact ⟨rfl, rfl⟩
     ·
      by_cases n6 : d = 6
      ·subst n6
       go_enter Tryd.func140, Tryd.ntmps140
       go_wp2
       go_ret
       exact ⟨rfl, rfl⟩
      ·
       have he : edFn g d = .nilFunc := by unfold edFn; rw [if_neg n1, if_neg n2, if_neg n3, if_neg n4, if_neg n5, if_neg n6]
       rw [he]
       have b1 : (d == 1) = false := beq_eq_false_iff_ne.mpr n1
       have b2 : (d == 2) = false := beq_eq_false_iff_ne.mpr n2
       have b3 : (d == 3) = false := beq_eq_false_iff_ne.mpr n3
       have b4 : (d == 4) = false := beq_eq_false_iff_ne.mpr n4
       have b5 : (d == 5) = false := beq_eq_false_iff_ne.mpr n5
       have b6 : (d == 6) = false := beq_eq_false_iff_ne.mpr n6
       clear n1 n2 n3 n4 n5 n6 he
       go_enter Tryd.func140, Tryd.ntmps140
       go_wp2
       go_ret
       exact ⟨rfl, rfl⟩
def q23 (ns : List S43) (n : Int) : Int := if 0 ≤ n ∧ n < (ns.length : Int) then (if (q00 ns n).f0 = 2 then 0 else 7) else 5
theorem ed_elem0 {w0 W : World} {g b c : Nat} {ns : List S43} {q : Bool} {m : Int} (hI : IsEd w0 W g b c ns q m) (n : Int) (e : Int) (he : q23 ns n = e) (hn : e ≠ 0) :
 Calls Tryd.prog 178 #[.pointer (some ⟨g, 0, none⟩), .int .i64 n] W fun r w' => r = .returned (.tuple #[.pointer none, .int .i64 e]) ∧ W = w' := by
 have hu43 := Tryd.underlying43
 have HI := aS hI
 clear hI
 unfold q23 at he
 by_cases hr : 0 ≤ n ∧ n < (ns.length : Int)
 ·rw [if_pos hr] at he
  by_cases hk : (q00 ns n).f0 = 2
  ·rw [if_pos hk] at he
   exact absurd he.symm hn
  ·rw [if_neg hk] at he
   subst he
   have h0 := aS hr.1
   have h1 := aS hr.2
   have k1 : ((q00 ns n).f0 == 2) = false := beq_eq_false_iff_ne.mpr hk
   have k2 : ((q00 ns n).f0 != 2) = true := bne_iff_ne.mpr hk
   clear hr hk hn
   obtain ⟨A2, c2, A5, c5, x0, -, -, -, -, -, -, -, -, -, -⟩ := IsEd.elem HI.out n h0.out h1.out
   go_enter Tryd.func178, Tryd.ntmps178
   go_wp2_with (go_at_call 180; refine (q17 HI.out _ h0.out h1.out).mono ?_; rintro e w' ⟨rfl, rfl⟩)
   go_ret2
   exact ⟨rfl, rfl⟩
 ·rw [if_neg hr] at he
  subst he
  have HO := aS (show n < 0 ∨ (ns.length : Int) ≤ n by omega)
  clear hr hn
  go_enter Tryd.func178, Tryd.ntmps178
  go_wp2_with (go_at_call 180; refine (ed_node0 HI.out _ HO.out).mono ?_; rintro e w' ⟨rfl, rfl⟩)
  go_ret2
  exact ⟨rfl, rfl⟩
theorem ed_elem1 {w0 W : World} {g b c : Nat} {ns : List S43} {q : Bool} {m : Int} (hI : IsEd w0 W g b c ns q m) (n : Int) (h0 : 0 ≤ n) (h1 : n < (ns.length : Int)) (hk : (q00 ns n).f0 = 2) :
 Calls Tryd.prog 178 #[.pointer (some ⟨g, 0, none⟩), .int .i64 n] W fun r w' => r = .returned (.tuple #[.pointer (some ⟨b, n.toNat * 6, none⟩), .int .i64 0]) ∧ W = w' := by
 have hu43 := Tryd.underlying43
 have HI := aS hI
 have H0 := aS h0
 have H1 := aS h1
 obtain ⟨A2, c2, A5, c5, x0, -, -, -, -, -, -, -, -, -, -⟩ := IsEd.elem hI n h0 h1
 rw [hk] at x0
 clear hI h0 h1 hk
 go_enter Tryd.func178, Tryd.ntmps178
 go_wp2_with (go_at_call 180; refine (q17 HI.out _ H0.out H1.out).mono ?_; rintro e w' ⟨rfl, rfl⟩)
 go_ret2
 exact ⟨rfl, rfl⟩
theorem IsEd.row2 {w0 W : World} {g b c : Nat} {ns : List S43} {q : Bool} {m : Int} (h : IsEd w0 W g b c ns q m) (i : Int) (h0 : 0 ≤ i) (h1 : i < (ns.length : Int)) :
 ∃ (oki : Nat → Prop) (A2 : Option Addr) (c2 : Nat), W.cell? ⟨b, i.toNat * 6 + 2, none⟩ = some (.slice A2 (q00 ns i).f2.length c2) ∧ W.frozen? ⟨b, i.toNat * 6 + 2, none⟩ = false ∧ k122.R 122 W w0.heap.size oki (.slice A2 (q00 ns i).f2.length c2) (q00 ns i).f2 ∧ (∀ k, oki k → k ≠ g ∧ k ≠ b) ∧
  ∀ {w1 : World} {l' : List S122} {v2' : Value}, W.grownBy w1 (Value.slice A2 (q00 ns i).f2.length c2).ownBlock → k122.R 122 w1 w0.heap.size (fun k => oki k ∨ k ≠ g ∧ W.heap.size ≤ k) v2' l' →
   IsEd w0 (w1.setCell ⟨b, i.toNat * 6 + 2, none⟩ v2') g b c (ns.set i.toNat { q00 ns i with f2 := l' }) q m := by
 obtain ⟨oki, cs, _, hM0, hc, hfz, hok, hH⟩ := Kd.S_elem h.2.2 z43 i h0 h1
 obtain ⟨v2, v5, rfl, g2, g5⟩ := q27 hM0
 obtain ⟨A2, c2, rfl⟩ := Kd.R_slice g2
 refine ⟨oki, A2, c2, hc 2 _ rfl, hfz 2, g2, hok, fun {w1 l' v2'} hg hr => ?_⟩
 have hne := h.ge.2
 have hrow : ∀ k, (Value.slice A2 (q00 ns i).f2.length c2).ownBlock = some k → oki k := g2.1
 have hH2 := Kd.H_grown (Kd.H_widen hH) hg (fun k hk => .inl (hrow k hk))
 have g5' : (Kd.int .i64).R 3 w1 w0.heap.size oki v5 (q00 ns i).f5 := Kd.R_over' g5 (Kd.R_typed g2) (by decide) hg
 obtain ⟨s1, _⟩ := Kd.S_seg0 hH2 h0 h1 (seg := [v2']) (j := 2) (show 2 + 1 ≤ 6 by decide) (q28 w1 w0.heap.size (fun k => oki k ∨ k ≠ g ∧ W.heap.size ≤ k) { q00 ns i with f2 := l' } hr (Kd.R_mono g5' (fun _ hk => .inl hk))) (fun _ hk => hk)
 have hg1 : w1.heap[g]? = W.heap[g]? := hg.block g (q0a h.1) (fun e => (hok g (hrow g e.symm)).1 rfl)
 refine ⟨(Below.heap_setCell w1 _ v2' g (fun e => hne e.symm)).trans ?_, h.2.1, ?_⟩
 ·rw [List.length_set]; exact hg1.trans h.1
 ·rw [List.length_set]; exact s1
theorem IsEd.row5 {w0 W : World} {g b c : Nat} {ns : List S43} {q : Bool} {m : Int} (h : IsEd w0 W g b c ns q m) (i : Int) (h0 : 0 ≤ i) (h1 : i < (ns.length : Int)) :
 ∃ (oki : Nat → Prop) (A5 : Option Addr) (c5 : Nat), W.cell? ⟨b, i.toNat * 6 + 5, none⟩ = some (.slice A5 (q00 ns i).f5.length c5) ∧ W.frozen? ⟨b, i.toNat * 6 + 5, none⟩ = false ∧ (Kd.int .i64).R 3 W w0.heap.size oki (.slice A5 (q00 ns i).f5.length c5) (q00 ns i).f5 ∧ (∀ k, oki k → k ≠ g ∧ k ≠ b) ∧
  ∀ {w1 : World} {l' : List Int} {v5' : Value}, W.grownBy w1 (Value.slice A5 (q00 ns i).f5.length c5).ownBlock → (Kd.int .i64).R 3 w1 w0.heap.size (fun k => oki k ∨ k ≠ g ∧ W.heap.size ≤ k) v5' l' →
   IsEd w0 (w1.setCell ⟨b, i.toNat * 6 + 5, none⟩ v5') g b c (ns.set i.toNat { q00 ns i with f5 := l' }) q m := by
 obtain ⟨oki, cs, _, hM0, hc, hfz, hok, hH⟩ := Kd.S_elem h.2.2 z43 i h0 h1
 obtain ⟨v2, v5, rfl, g2, g5⟩ := q27 hM0
 obtain ⟨A5, c5, rfl⟩ := Kd.R_slice g5
 refine ⟨oki, A5, c5, hc 5 _ rfl, hfz 5, g5, hok, fun {w1 l' v5'} hg hr => ?_⟩
 have hne := h.ge.2
 have hrow : ∀ k, (Value.slice A5 (q00 ns i).f5.length c5).ownBlock = some k → oki k := g5.1
 have hH2 := Kd.H_grown (Kd.H_widen hH) hg (fun k hk => .inl (hrow k hk))
 have g2' : k122.R 122 w1 w0.heap.size oki v2 (q00 ns i).f2 := Kd.R_over' g2 (Kd.R_typed g5) (by decide) hg
 obtain ⟨s1, _⟩ := Kd.S_seg0 hH2 h0 h1 (seg := [v5']) (j := 5) (show 5 + 1 ≤ 6 by decide) (q28 w1 w0.heap.size (fun k => oki k ∨ k ≠ g ∧ W.heap.size ≤ k) { q00 ns i with f5 := l' } (Kd.R_mono g2' (fun _ hk => .inl hk)) hr) (fun _ hk => hk)
 have hg1 : w1.heap[g]? = W.heap[g]? := hg.block g (q0a h.1) (fun e => (hok g (hrow g e.symm)).1 rfl)
 refine ⟨(Below.heap_setCell w1 _ v5' g (fun e => hne e.symm)).trans ?_, h.2.1, ?_⟩
 ·rw [List.length_set]; exact hg1.trans h.1
 ·rw [List.length_set]; exact s1
theorem ed_below_grown {w0 W w1 : World} {oki : Nat → Prop} {α : Type} {d : Kd α} {e : Nat} {v : Value} {xs : List α} (hB : Below w0.heap.size w0 W) (hr : d.R e W w0.heap.size oki v xs) (hg : W.grownBy w1 v.ownBlock) : Below w0.heap.size w0 w1 := by
 exact pw_below_grown hB _ (by exact hB.size) hg (fun k hk => Kd.R_base hr k hk)
theorem ed_frozen {w w1 : World} {row : Option Nat} {a : Addr} {v : Value} (hg : w.grownBy w1 row) (hne : some a.block ≠ row) (hc : w.cell? a = some v) : w1.frozen? a = w.frozen? a := by
 unfold World.frozen?
 rw [hg.block a.block (World.block_lt_of_cell? w a hc) hne]
theorem ed_len_erase {α : Type} {l : List α} {j : Nat} (h : j < l.length) : (l.eraseIdx j).length = l.length - 1 := List.length_eraseIdx_of_lt h
set_option maxHeartbeats 2000000 in
set_option maxRecDepth 100000 in
theorem api_Attr_179.del (ok : Nat → Prop) (base g c : Nat) (l0 : List S122) (i : Nat) (w : World) (hN : Kd.R k122 122 w base ok (.slice (some ⟨g, 0, none⟩) l0.length c) l0) (hbs : base ≤ w.heap.size) (hi : i < l0.length) :
 Calls Tryd.prog 179 #[.slice (some ⟨g, 0, none⟩) l0.length c, .int .i64 (i : Int), .int .i64 ((i + 1 : Nat) : Int)] w fun e w' => e = .returned (.slice (some ⟨g, 0, none⟩) (l0.length - 1) c) ∧ Kd.R k122 122 w' base ok (.slice (some ⟨g, 0, none⟩) (l0.length - 1) c) (l0.eraseIdx i) ∧ w.grownBy w' (some g) := by
 have hle := (Kd.R_reads' hN).2.1
 obtain ⟨cur0, hh0, hs0, hcm0⟩ := Cl.R_row hN
 have hcm : c ≤ 9223372036854775807 := hcm0
 clear hcm0 cur0 hh0 hs0
 have HN := aS hN
 clear hN
 obtain ⟨j, hj⟩ : ∃ j, i + 1 = j := ⟨_, rfl⟩
 rw [hj]
 have HJ := aS hj
 have hne : ((i : Int) == (j : Int)) = false := by simp; omega
 have hne2 : ¬ i = j := by omega
 have hij : i ≤ j := by omega
 have hic : i ≤ c := by omega
 have hi1c : j ≤ c := by omega
 have hil : i ≤ l0.length := by omega
 have hi1l : j ≤ l0.length := by omega
 have hA := aS (show (if c = j then some (⟨g, 0, none⟩ : Addr) else some ⟨g, j * 2, none⟩) = if c = i + 1 then some ⟨g, 0, none⟩ else (some (⟨g, 0, none⟩ : Addr)).map (·.add ((i + 1) * (k122).sz)) from by rw [← hj]; simp only [Option.map_some, add_plain]; rfl)
 have hM := aS (show l0.length - j = l0.length - (i + 1) from by omega)
 clear hj
 have HBS := aS hbs
 clear hbs
 go_enter Tryd.func179, Tryd.ntmps179
 go_wp2_with fail
 go_region_law go_loud (refine Kd.R_delete_step k122 (w0 := w.drew) base (by rfl) (.tmp 22) (.tmp 25) 41 122 rfl Tryd.underlying41 (by kernel_rfl) (g := g) (n := l0.length) (c := c) (k := i) (m := l0.length - j) (c2 := c - j) (A := if c = j then some ⟨g, 0, none⟩ else some ⟨g, j * 2, none⟩) (by simp [Act.eval, Act.put]) (by simp [Act.eval, Act.put]) hA.out hM.out (Kd.R_drew HN.out) hi (Below.refl _ _) HBS.out ?_; intro w1 HN1 hB1 hG1; have HH := aS (And.intro HN1 (And.intro hB1 hG1)); clear HN1 hB1 hG1)
 obtain ⟨HN1, hB1, hG1⟩ := HH.out
 clear HH
 obtain ⟨m, hm⟩ : ∃ m, l0.length - 1 = m := ⟨_, rfl⟩
 rw [hm] at HN1 ⊢
 obtain ⟨cur, hh, hs, hcap⟩ := Cl.R_row HN1
 have hmc : m + 1 ≤ c := by omega
 have hz1 : (Builtin.zeroCells (Value.cells (.agg #[(.string ⟨#[]⟩), (.string ⟨#[]⟩)])) (l0.length - m)).toList.length = 2 := by
  rw [Array.length_toList, size_zeroCells, show l0.length - m = 1 from by omega]; rfl
 have hcl : ∀ ty, (Builtin.clear_ #[41] ty #[.slice (some ⟨g, m * 2, none⟩) (l0.length - m) (c - m)]).run Tryd.prog w1 = .ok (.tuple #[]) (w1.setCells g (m * 2) (Builtin.zeroCells (Value.cells (.agg #[(.string ⟨#[]⟩), (.string ⟨#[]⟩)])) (l0.length - m)).toList) := fun ty =>
  Cl.run_clear Tryd.prog w1 41 122 ty (.agg #[(.string ⟨#[]⟩), (.string ⟨#[]⟩)]) Tryd.underlying41 Tryd.zeroValue122 g (m * 2) (l0.length - m) (c - m) 122 (by omega) cur hh (by rw [hz1, hs]; have : (m + 1) * (k122).sz ≤ c * (k122).sz := Nat.mul_le_mul_right _ hmc; have e : (k122).sz = 2 := rfl; rw [e] at this ⊢; omega) (Cl.zero_one (by decide) _)
 have htail := aS (And.intro (Cl.R_tail HN1 (m * 2) (Builtin.zeroCells (Value.cells (.agg #[(.string ⟨#[]⟩), (.string ⟨#[]⟩)])) (l0.length - m)).toList (Nat.le_refl _) (by rw [hz1]; have : (m + 1) * (k122).sz ≤ c * (k122).sz := Nat.mul_le_mul_right _ hmc; have e : (k122).sz = 2 := rfl; rw [e] at this ⊢; omega)) (Cl.grown_step hG1 (Cl.grown_setCells w1 g (m * 2) (Builtin.zeroCells (Value.cells (.agg #[(.string ⟨#[]⟩), (.string ⟨#[]⟩)])) (l0.length - m)).toList)))
 clear HN1 hG1 hh hs hcap hz1 cur
 obtain ⟨zs, hzs⟩ : ∃ zs, (Builtin.zeroCells (Value.cells (.agg #[(.string ⟨#[]⟩), (.string ⟨#[]⟩)])) (l0.length - m)).toList = zs := ⟨_, rfl⟩
 rw [hzs] at hcl htail
 clear hzs
 have hmc1 : m ≤ c := by omega
 have hml : m ≤ l0.length := by omega
 have hcm1 : ¬ c = m := by omega
 have HM := aS hm
 clear hm hmc
 try simp only [Nat.mul_one] at hcl htail
 go_wp2
 all_goals
  go_ret
  obtain rfl := HM.out
  first
  | exact ⟨rfl, htail.out.1, ⟨htail.out.2.1, htail.out.2.2, htail.out.2.3, htail.out.2.4, htail.out.2.5⟩⟩
  | (have hcj_ : c = j := (by assumption); subst hcj_; exact ⟨rfl, htail.out.1, ⟨htail.out.2.1, htail.out.2.2, htail.out.2.3, htail.out.2.4, htail.out.2.5⟩⟩)
def edDrop (ns : List S43) (n : Int) (nm : ByteArray) : Option (List S43 × Int) :=
 if q23 ns n ≠ 0 then some (ns, q23 ns n) else (dom_find.f (q00 ns n).f2 nm).bind fun i => if i < 0 then some (ns, 5) else if i < ((q00 ns n).f2.length : Int) then some (ns.set n.toNat { q00 ns n with f2 := (q00 ns n).f2.eraseIdx i.toNat }, 0) else none
theorem edElem_zero {ns : List S43} {n : Int} (h : q23 ns n = 0) : 0 ≤ n ∧ n < (ns.length : Int) ∧ (q00 ns n).f0 = 2 := by
 unfold q23 at h
 by_cases hr : 0 ≤ n ∧ n < (ns.length : Int)
 ·rw [if_pos hr] at h
  by_cases hk : (q00 ns n).f0 = 2
  ·exact ⟨hr.1, hr.2, hk⟩
  ·rw [if_neg hk] at h; exact absurd h (by decide)
 ·rw [if_neg hr] at h; exact absurd h (by decide)
set_option maxHeartbeats 4000000 in
set_option maxRecDepth 100000 in
theorem ed_drop {w0 W : World} {g b c : Nat} {ns ns' : List S43} {q : Bool} {m r : Int} (hI : IsEd w0 W g b c ns q m) (hB : Below w0.heap.size w0 W) (e0 e1 e2 e3 : Int) (e4 e5 : ByteArray) (e6 : Int) (e7 : ByteArray) (A8 : Option Addr) (c8 : Nat) (l8 : List S122) (e9 : ByteArray) (e10 : Int) (A11 : Option Addr) (c11 : Nat) (l11 : List Int) (h : edDrop ns e1 e4 = some (ns', r)) :
 Calls Tryd.prog 162 #[.pointer (some ⟨g, 0, none⟩), .agg #[.int .i64 e0, .int .i64 e1, .int .i64 e2, .int .i64 e3, .string e4, .string e5, .int .i64 e6, .string e7, .slice A8 l8.length c8, .string e9, .int .i64 e10, .slice A11 l11.length c11]] W fun e w' => e = .returned (.int .i64 r) ∧ IsEd w0 w' g b c ns' q m ∧ Below w0.heap.size w0 w' := by
 have hu87 := Tryd.underlying87
 have hu43 := Tryd.underlying43
 have HI := aS hI
 have HB := aS hB
 clear hI hB
 unfold edDrop at h
 by_cases he : q23 ns e1 = 0
 ·rw [if_neg (fun hn => hn he)] at h
  obtain ⟨i0, i1, ik⟩ := edElem_zero he
  have h0 := aS i0
  have h1 := aS i1
  have HK := aS ik
  clear i0 i1 ik he
  obtain ⟨i, hi, h⟩ := Option.bind_eq_some_iff.1 h
  have HF := aS hi
  clear hi
  by_cases c0 : i < 0
  ·have h2 := (if_pos c0).symm.trans h
   clear h
   simp only [Option.some.injEq, Prod.mk.injEq] at h2
   obtain ⟨rfl, rfl⟩ := h2
   have cb : decide (i < 0) = true := decide_eq_true c0
   clear c0
   go_enter Tryd.func162, Tryd.ntmps162
   go_wp2_with (first | ((with_reducible refine q07 (N := 3) rfl ?_); refine box1 rfl (N := 3) rfl (cs := #[.int .i64 e0, .int .i64 e1, .int .i64 e2, .int .i64 e3, .string e4, .string e5, .int .i64 e6, .string e7, .slice A8 l8.length c8, .string e9, .int .i64 e10, .slice A11 l11.length c11]) (t := 87) zh ?_; intro gb wb BK GB HS; have HI1 := aS (IsEd.below HI.out HS.out); have HB1 := aS (q01 HB.out HS.out); have HN1 := aS (show g ≠ gb from fun e_ => by have := q0a HI.out.1; have := GB.out; omega); clear HI HB HS; have HI := HI1; have HB := HB1; clear HI1 HB1; obtain ⟨hb0, hb1, hb2, hb3, hb4, hb5, hb6, hb7, hb8, hb9, hb10, hb11⟩ := bk12 BK.out) | (go_at_call 178; refine (ed_elem1 HI.out _ h0.out h1.out HK.out).mono ?_; rintro e w' ⟨rfl, rfl⟩))
   obtain ⟨oki, A2, c2, x2, hf2, R2, hok, put2⟩ := IsEd.row2 HI.out e1 h0.out h1.out
   have HRR := aS R2
   clear R2 hok put2 hf2
   go_wp2_with fail
   go_still_tail 6, (by kernel_rfl)
   change wpList _ _ _ _ _ wb.drew
   have HI2 := aS (IsEd.drewN HI.out 1)
   have HB2 := aS (show Below w0.heap.size w0 wb.drew from q0g HB.out)
   clear HI HB
   go_wp2_with (go_at_call 112; refine (dom_find.calls A2 c2 _ e4 _ _ (Kd.C_drew (Kd.R_reads' HRR.out).2.2) (Kd.R_reads' HRR.out).2.1 HF.out).mono ?_; rintro e w6 ⟨rfl, hbl⟩; have HI := aS (IsEd.below (W := wb.drew) HI2.out hbl); have HB := aS (q01 HB2.out hbl); have BK6 := aS (q02 (w := wb.drew) BK.out hbl); clear HI2 HB2 HRR x2 hbl hb0 hb1 hb2 hb3 hb4 hb5 hb6 hb7 hb8 hb9 hb10 hb11)
   go_ret
   exact ⟨rfl, HI.out, HB.out⟩
  ·have h2 := (if_neg c0).symm.trans h
   clear h
   refine iGp h2 ?_
   clear h2
   intro c1 h
   simp only [Option.some.injEq, Prod.mk.injEq] at h
   obtain ⟨rfl, rfl⟩ := h
   have cb : decide (i < 0) = false := decide_eq_false c0
   obtain ⟨j, rfl⟩ := Int.eq_ofNat_of_zero_le (Int.not_lt.1 c0)
   have HJ := aS (show j < (q00 ns e1).f2.length by omega)
   clear c0 c1
   go_enter Tryd.func162, Tryd.ntmps162
   go_wp2_with (first | ((with_reducible refine q07 (N := 3) rfl ?_); refine box1 rfl (N := 3) rfl (cs := #[.int .i64 e0, .int .i64 e1, .int .i64 e2, .int .i64 e3, .string e4, .string e5, .int .i64 e6, .string e7, .slice A8 l8.length c8, .string e9, .int .i64 e10, .slice A11 l11.length c11]) (t := 87) zh ?_; intro gb wb BK GB HS; have HI1 := aS (IsEd.below HI.out HS.out); have HB1 := aS (q01 HB.out HS.out); have HN1 := aS (show g ≠ gb from fun e_ => by have := q0a HI.out.1; have := GB.out; omega); clear HI HB HS; have HI := HI1; have HB := HB1; clear HI1 HB1; obtain ⟨hb0, hb1, hb2, hb3, hb4, hb5, hb6, hb7, hb8, hb9, hb10, hb11⟩ := bk12 BK.out) | (go_at_call 178; refine (ed_elem1 HI.out _ h0.out h1.out HK.out).mono ?_; rintro e w' ⟨rfl, rfl⟩))
   obtain ⟨oki, A2, c2, x2, hf2, R2, hok, put2⟩ := IsEd.row2 HI.out e1 h0.out h1.out
   have HRR := aS R2
   clear R2 hok put2 hf2
   go_wp2_with fail
   go_still_tail 6, (by kernel_rfl)
   change wpList _ _ _ _ _ wb.drew
   have HI2 := aS (IsEd.drewN HI.out 1)
   have HB2 := aS (show Below w0.heap.size w0 wb.drew from q0g HB.out)
   clear HI HB
   go_wp2_with (first | (go_at_call 112; refine (dom_find.calls A2 c2 _ e4 _ _ (Kd.C_drew (Kd.R_reads' HRR.out).2.2) (Kd.R_reads' HRR.out).2.1 HF.out).mono ?_; rintro e w6 ⟨rfl, hbl⟩; have HI := aS (IsEd.below (W := wb.drew) HI2.out hbl); have HB := aS (q01 HB2.out hbl); have BK6 := aS (q02 (w := wb.drew) BK.out hbl); clear HI2 HB2 HRR x2 hbl hb0 hb1 hb2 hb3 hb4 hb5 hb6 hb7 hb8 hb9 hb10 hb11; obtain ⟨oki, A2', c2', x2, hf2, R2, hok, put2⟩ := IsEd.row2 HI.out e1 h0.out h1.out; obtain ⟨g2, cap2, he2, -, -, -⟩ := Kd.R_form R2 (Nat.lt_of_le_of_lt (Nat.zero_le _) HJ.out); obtain rfl : A2' = some ⟨g2, 0, none⟩ := (by injection he2); obtain rfl : c2' = cap2 := (by injection he2); clear he2; obtain ⟨cur, -, -, hcm⟩ := Cl.R_row R2; have hj2 : (j : Int) + 1 ≤ 9223372036854775807 := (by have := HJ.out; have := (Kd.R_reads' R2).2.1; unfold maxLen at hcm; omega); have hd_ := api_Attr_179.del oki w0.heap.size g2 c2' _ j w6 R2 HB.out.size HJ.out; rw [show ((j + 1 : Nat) : Int) = (j : Int) + 1 from rfl] at hd_; have HD := aS hd_; clear hd_; have HPUT := aS (@put2); have HOK := aS hok; have x2' := aS x2; have HR2 := aS R2; clear put2 R2 hok hcm cur) | (go_at_call 179; refine HD.out.mono ?_; rintro e w7 ⟨rfl, hr7, hg7⟩; have hne7 : some b ≠ some g2 := (fun e_ => (HOK.out g2 (HR2.out.1 g2 (by simp [Value.ownBlock]))).2 (Option.some.inj e_).symm); replace x2 := hg7.cell x2 hne7; replace hf2 := (ed_frozen hg7 hne7 x2'.out).trans hf2; have HR7 := aS hr7; have HG7 := aS hg7; clear hr7 hg7 hne7 x2'))
   go_ret
   exact ⟨rfl, HPUT.out HG7.out (Kd.R_mono HR7.out (fun _ hk => .inl hk)), q08 (ed_below_grown HB.out HR2.out HG7.out) (IsEd.ge HI.out).1⟩
 ·rw [if_pos he] at h
  simp only [Option.some.injEq, Prod.mk.injEq] at h
  obtain ⟨rfl, rfl⟩ := h
  have HE := aS he
  have cb : (q23 ns e1 == 0) = false := beq_eq_false_iff_ne.mpr he
  have cb' : (q23 ns e1 != 0) = true := bne_iff_ne.mpr he
  clear he
  go_enter Tryd.func162, Tryd.ntmps162
  go_wp2_with (first | ((with_reducible refine q07 (N := 3) rfl ?_); refine box1 rfl (N := 3) rfl (cs := #[.int .i64 e0, .int .i64 e1, .int .i64 e2, .int .i64 e3, .string e4, .string e5, .int .i64 e6, .string e7, .slice A8 l8.length c8, .string e9, .int .i64 e10, .slice A11 l11.length c11]) (t := 87) zh ?_; intro gb wb BK GB HS; have HI1 := aS (IsEd.below HI.out HS.out); have HB1 := aS (q01 HB.out HS.out); have HN1 := aS (show g ≠ gb from fun e_ => by have := q0a HI.out.1; have := GB.out; omega); clear HI HB HS; have HI := HI1; have HB := HB1; clear HI1 HB1; obtain ⟨hb0, hb1, hb2, hb3, hb4, hb5, hb6, hb7, hb8, hb9, hb10, hb11⟩ := bk12 BK.out) | (go_at_call 178; refine (ed_elem0 HI.out _ _ rfl HE.out).mono ?_; rintro e w' ⟨rfl, rfl⟩))
  go_ret
  exact ⟨rfl, HI.out, HB.out⟩
end Go.Proofs.YthjnallbbhnndaaDoor.XDe
namespace Go.Proofs.YthjnallbbhnndaaDoor.XDe
open Go.Proofs.YthjnallbbhnndaaDoor.Short Go.RowKit Go.Proofs.YthjnallbbhnndaaDoorW.PrintWords Go.Proofs.YthjnallbbhnndaaDoorW.PrintLast Go.Proofs.YthjnallbbhnndaaDoorW.PrintMore
attribute [local go_sem] q16 q14 q1g q1f q0s q0r q15 q13   -- for this text's walks alone
set_option linter.unusedVariables false
set_option linter.unusedSimpArgs false
def slices_Index_int_int.l0 : Nat → List Int → Int → Int → Int → Option (Int)
 | 0, _, _, _, _ => none
 | k + 1, x0, x1, x7, x8 => if x8 < x7 then (if 0 ≤ x8 then (if x8 < (x0.length : Int) then (if x1 = (rd x0 x8) then (some x8) else (slices_Index_int_int.l0 k x0 x1 x7 (wrap64 (x8 + 1)))) else (none)) else (none)) else (some (-1))
def slices_Index_int_int.f (k : Nat) (l0 : List Int) (a1 : Int) : Option (Int) := slices_Index_int_int.l0 k l0 a1 (l0.length : Int) 0
theorem slices_Index_int_int.mono_l : ∀ k, (∀ y0 y1 y2 y3, LeO (slices_Index_int_int.l0 k y0 y1 y2 y3) (slices_Index_int_int.l0 (k + 1) y0 y1 y2 y3))
 | 0 => fun _ _ _ _ r h => by simp [slices_Index_int_int.l0] at h
 | k + 1 => by
  have ih0 := slices_Index_int_int.mono_l k
  ·intro y0 y1 y2 y3
   unfold slices_Index_int_int.l0
   repeat' first | with_reducible first | apply ih0 | exact LeO.refl _ | exact LeO.none _ | refine LeO.ite ?_ ?_ | refine LeO.bind ?_ (fun _ => ?_) | (first | apply ih0 | exact LeO.none _ | refine LeO.ite ?_ ?_ | refine LeO.bind ?_ (fun _ => ?_))
theorem slices_Index_int_int.mono : ∀ a0 a1 k, LeO (slices_Index_int_int.f k a0 a1) (slices_Index_int_int.f (k + 1) a0 a1) := by
 intro a0 a1 k
 have ih0 := slices_Index_int_int.mono_l k
 unfold slices_Index_int_int.f
 repeat' first | with_reducible first | apply ih0 | exact LeO.refl _ | exact LeO.none _ | refine LeO.ite ?_ ?_ | refine LeO.bind ?_ (fun _ => ?_) | (first | apply ih0 | exact LeO.none _ | refine LeO.ite ?_ ?_ | refine LeO.bind ?_ (fun _ => ?_))
set_option maxHeartbeats 8000000 in
set_option maxRecDepth 100000 in
theorem slices_Index_int_int.calls (k : Nat) (A0 : Option Addr) (c0 : Nat) (l0 : List Int) (a1 : Int) (r : Int) (w : World) (hr0 : Kd.C (Kd.int .i64) w A0 l0.length l0) (hc0 : l0.length ≤ c0) (h : slices_Index_int_int.f k l0 a1 = some r) :
 Calls Tryd.prog 77 #[.slice A0 l0.length c0, .int .i64 a1] w fun e w' => e = .returned (.int .i64 r) ∧ Drawn0 w w' := by
 have HR0 := aS hr0
 have HC0 := aS hc0
 clear hr0 hc0
 have H := h; clear h; unfold slices_Index_int_int.f at H
 have H' := aS H
 clear H
 go_enter Tryd.func77, Tryd.ntmps77
 go_wp2
 go_loopg [8] k (fun kq v8 w' => ∃ (x8_1 : Int), v8 = .int .i64 x8_1 ∧ Aside0 (slices_Index_int_int.l0 kq l0 a1 (l0.length : Int) x8_1 = some r) ∧ Aside0 (kq ≤ k) ∧ Drawn0 w w')
 case atStart => exact ⟨(0), zi, H', ⟨Nat.le_refl _⟩, by repeat (first | exact Drawn0.refl _ | apply Drawn0.step)⟩
 case round =>
  clear H'
  obtain ⟨x8_1, rfl, HA, HK1, ⟨m1, rfl⟩⟩ := hrel
  cases gk with
  | zero => exact absurd HA.out (by simp [slices_Index_int_int.l0])
  | succ k1 =>
   have H := HA.out
   clear HA
   simp only [slices_Index_int_int.l0] at H
   refine iT H ?p3 ?n3 <;> clear H
   case' p3 =>
    intro c3b0 H
    refine iLp H ?_; clear H; intro c4b0 H
    refine iTp H ?_; clear H; intro c5b0 H
    obtain ⟨ad195, e195, hx195_0, p195, q195⟩ := atIA HR0.out x8_1 zb zb
    cases e195
    refine iE H ?p6 ?n6 <;> clear H
   case' p6 => intro c6b0 c6b1 H
   case' n6 => intro c6 c6b0 c6b1 H
   case' n3 => intro c3b0 H
   case p6|n3 =>
    obtain rfl := Option.some.inj H
    go_wp2
    go_ret
    exact ⟨by first | rfl | (simp; done) | (simp [*]; done), by repeat (first | exact Drawn0.refl _ | apply Drawn0.step)⟩
   case n6 =>
    have H' := aS H
    clear H
    go_wp2
    go_roundg k1
    case measure => have := HK1.out; omega
    case rel => exact ⟨(wrap64 (x8_1 + 1)), zi, H', ⟨by have := HK1.out; omega⟩, by repeat (first | exact Drawn0.refl _ | apply Drawn0.step)⟩
set_option maxHeartbeats 2000000 in
set_option maxRecDepth 100000 in
theorem slices_Delete_int_int.del (ok : Nat → Prop) (base g c : Nat) (l0 : List Int) (i : Nat) (w : World) (hN : Kd.R (Kd.int .i64) 3 w base ok (.slice (some ⟨g, 0, none⟩) l0.length c) l0) (hbs : base ≤ w.heap.size) (hi : i < l0.length) :
 Calls Tryd.prog 183 #[.slice (some ⟨g, 0, none⟩) l0.length c, .int .i64 (i : Int), .int .i64 ((i + 1 : Nat) : Int)] w fun e w' => e = .returned (.slice (some ⟨g, 0, none⟩) (l0.length - 1) c) ∧ Kd.R (Kd.int .i64) 3 w' base ok (.slice (some ⟨g, 0, none⟩) (l0.length - 1) c) (l0.eraseIdx i) ∧ w.grownBy w' (some g) := by
 have hle := (Kd.R_reads' hN).2.1
 obtain ⟨cur0, hh0, hs0, hcm0⟩ := Cl.R_row hN
 have hcm : c ≤ 9223372036854775807 := hcm0
 clear hcm0 cur0 hh0 hs0
 have HN := aS hN
 clear hN
 obtain ⟨j, hj⟩ : ∃ j, i + 1 = j := ⟨_, rfl⟩
 rw [hj]
 have HJ := aS hj
 have hne : ((i : Int) == (j : Int)) = false := by simp; omega
 have hne2 : ¬ i = j := by omega
 have hij : i ≤ j := by omega
 have hic : i ≤ c := by omega
 have hi1c : j ≤ c := by omega
 have hil : i ≤ l0.length := by omega
 have hi1l : j ≤ l0.length := by omega
 have hA := aS (show (if c = j then some (⟨g, 0, none⟩ : Addr) else some ⟨g, j * 1, none⟩) = if c = i + 1 then some ⟨g, 0, none⟩ else (some (⟨g, 0, none⟩ : Addr)).map (·.add ((i + 1) * ((Kd.int .i64)).sz)) from by rw [← hj]; simp only [Option.map_some, add_plain]; rfl)
 have hM := aS (show l0.length - j = l0.length - (i + 1) from by omega)
 clear hj
 have HBS := aS hbs
 clear hbs
 go_enter Tryd.func183, Tryd.ntmps183
 go_wp2_with fail
 go_region_law go_loud (refine Kd.R_delete_step (Kd.int .i64) (w0 := w.drew) base (by rfl) (.tmp 22) (.tmp 25) 31 3 rfl Tryd.underlying31 (by kernel_rfl) (g := g) (n := l0.length) (c := c) (k := i) (m := l0.length - j) (c2 := c - j) (A := if c = j then some ⟨g, 0, none⟩ else some ⟨g, j * 1, none⟩) (by simp [Act.eval, Act.put]) (by simp [Act.eval, Act.put]) hA.out hM.out (Kd.R_drew HN.out) hi (Below.refl _ _) HBS.out ?_; intro w1 HN1 hB1 hG1; have HH := aS (And.intro HN1 (And.intro hB1 hG1)); clear HN1 hB1 hG1)
 obtain ⟨HN1, hB1, hG1⟩ := HH.out
 clear HH
 obtain ⟨m, hm⟩ : ∃ m, l0.length - 1 = m := ⟨_, rfl⟩
 rw [hm] at HN1 ⊢
 obtain ⟨cur, hh, hs, hcap⟩ := Cl.R_row HN1
 have hmc : m + 1 ≤ c := by omega
 have hz1 : (Builtin.zeroCells (Value.cells (.int .i64 0)) (l0.length - m)).toList.length = 1 := by
  rw [Array.length_toList, size_zeroCells, show l0.length - m = 1 from by omega]; rfl
 have hcl : ∀ ty, (Builtin.clear_ #[31] ty #[.slice (some ⟨g, m * 1, none⟩) (l0.length - m) (c - m)]).run Tryd.prog w1 = .ok (.tuple #[]) (w1.setCells g (m * 1) (Builtin.zeroCells (Value.cells (.int .i64 0)) (l0.length - m)).toList) := fun ty =>
  Cl.run_clear Tryd.prog w1 31 3 ty (.int .i64 0) Tryd.underlying31 Tryd.zeroValue3 g (m * 1) (l0.length - m) (c - m) 3 (by omega) cur hh (by rw [hz1, hs]; have : (m + 1) * ((Kd.int .i64)).sz ≤ c * ((Kd.int .i64)).sz := Nat.mul_le_mul_right _ hmc; have e : ((Kd.int .i64)).sz = 1 := rfl; rw [e] at this ⊢; omega) (Cl.zero_one (by decide) _)
 have htail := aS (And.intro (Cl.R_tail HN1 (m * 1) (Builtin.zeroCells (Value.cells (.int .i64 0)) (l0.length - m)).toList (Nat.le_refl _) (by rw [hz1]; have : (m + 1) * ((Kd.int .i64)).sz ≤ c * ((Kd.int .i64)).sz := Nat.mul_le_mul_right _ hmc; have e : ((Kd.int .i64)).sz = 1 := rfl; rw [e] at this ⊢; omega)) (Cl.grown_step hG1 (Cl.grown_setCells w1 g (m * 1) (Builtin.zeroCells (Value.cells (.int .i64 0)) (l0.length - m)).toList)))
 clear HN1 hG1 hh hs hcap hz1 cur
 obtain ⟨zs, hzs⟩ : ∃ zs, (Builtin.zeroCells (Value.cells (.int .i64 0)) (l0.length - m)).toList = zs := ⟨_, rfl⟩
 rw [hzs] at hcl htail
 clear hzs
 have hmc1 : m ≤ c := by omega
 have hml : m ≤ l0.length := by omega
 have hcm1 : ¬ c = m := by omega
 have HM := aS hm
 clear hm hmc
 try simp only [Nat.mul_one] at hcl htail
 go_wp2
 all_goals
  go_ret
  obtain rfl := HM.out
  first
  | exact ⟨rfl, htail.out.1, ⟨htail.out.2.1, htail.out.2.2, htail.out.2.3, htail.out.2.4, htail.out.2.5⟩⟩
  | (have hcj_ : c = j := (by assumption); subst hcj_; exact ⟨rfl, htail.out.1, ⟨htail.out.2.1, htail.out.2.2, htail.out.2.3, htail.out.2.4, htail.out.2.5⟩⟩)
def edRemove (k : Nat) (ns : List S43) (n : Int) : Option (List S43 × Int) :=
 if 0 ≤ n ∧ n < (ns.length : Int) then (if (q00 ns n).f0 = 1 then some (ns, 7) else if (q00 ns n).f4 < 0 then some (ns, 5) else if (q00 ns n).f4 < (ns.length : Int) then
  (slices_Index_int_int.f k (q00 ns (q00 ns n).f4).f5 n).bind fun i => if 0 ≤ i ∧ i < ((q00 ns (q00 ns n).f4).f5.length : Int) then
   some ((ns.set (q00 ns n).f4.toNat { q00 ns (q00 ns n).f4 with f5 := (q00 ns (q00 ns n).f4).f5.eraseIdx i.toNat }).set n.toNat { q00 (ns.set (q00 ns n).f4.toNat { q00 ns (q00 ns n).f4 with f5 := (q00 ns (q00 ns n).f4).f5.eraseIdx i.toNat }) n with f4 := -1 }, 0) else none
  else none) else some (ns, 5)
set_option maxHeartbeats 4000000 in
set_option maxRecDepth 100000 in
theorem ed_remove {w0 W : World} {g b c : Nat} {ns ns' : List S43} {q : Bool} {m r : Int} (k : Nat) (hI : IsEd w0 W g b c ns q m) (hB : Below w0.heap.size w0 W) (e0 e1 e2 e3 : Int) (e4 e5 : ByteArray) (e6 : Int) (e7 : ByteArray) (A8 : Option Addr) (c8 : Nat) (l8 : List S122) (e9 : ByteArray) (e10 : Int) (A11 : Option Addr) (c11 : Nat) (l11 : List Int) (h : edRemove k ns e1 = some (ns', r)) :
 Calls Tryd.prog 166 #[.pointer (some ⟨g, 0, none⟩), .agg #[.int .i64 e0, .int .i64 e1, .int .i64 e2, .int .i64 e3, .string e4, .string e5, .int .i64 e6, .string e7, .slice A8 l8.length c8, .string e9, .int .i64 e10, .slice A11 l11.length c11]] W fun e w' => e = .returned (.int .i64 r) ∧ IsEd w0 w' g b c ns' q m ∧ Below w0.heap.size w0 w' := by
 have hu87 := Tryd.underlying87
 have hu43 := Tryd.underlying43
 have hu147 := Tryd.underlying147
 have HI := aS hI
 have HB := aS hB
 clear hI hB
 unfold edRemove at h
 by_cases hr : 0 ≤ e1 ∧ e1 < (ns.length : Int)
 ·have h2 := (if_pos hr).symm.trans h
  clear h
  have h0 := aS hr.1
  have h1 := aS hr.2
  clear hr
  obtain ⟨y, hy⟩ : ∃ y, q00 ns e1 = y := ⟨_, rfl⟩
  rw [hy] at h2
  refine iE h2 ?p1 ?n1 <;> clear h2
  case p1 =>
   intro k1 k2 h
   simp only [Option.some.injEq, Prod.mk.injEq] at h
   obtain ⟨rfl, rfl⟩ := h
   have HY := aS hy
   clear hy
   go_enter Tryd.func166, Tryd.ntmps166
   go_upto_region 4 with (first | ((with_reducible refine q07 (N := 3) rfl ?_); refine box1 rfl (N := 3) rfl (cs := #[.int .i64 e0, .int .i64 e1, .int .i64 e2, .int .i64 e3, .string e4, .string e5, .int .i64 e6, .string e7, .slice A8 l8.length c8, .string e9, .int .i64 e10, .slice A11 l11.length c11]) (t := 87) zh ?_; intro gb wb BK GB HS; have HI1 := aS (IsEd.below HI.out HS.out); have HB1 := aS (q01 HB.out HS.out); have HN1 := aS (show g ≠ gb from fun e_ => by have := q0a HI.out.1; have := GB.out; omega); clear HI HB HS; have HI := HI1; have HB := HB1; clear HI1 HB1; obtain ⟨hb0, hb1, hb2, hb3, hb4, hb5, hb6, hb7, hb8, hb9, hb10, hb11⟩ := bk12 BK.out) | (go_at_call 180; refine (q17 HI.out _ h0.out h1.out).mono ?_; rintro e w' ⟨rfl, rfl⟩))
   obtain ⟨A2, c2, A5, c5, x0, x1, x2, x3, x4, x5, -, -, -, -, hfz⟩ := IsEd.elem HI.out e1 h0.out h1.out
   rw [HY.out] at x0 x1 x2 x3 x4 x5
   go_wp2
   go_ret
   exact ⟨rfl, HI.out, HB.out⟩
  case n1 =>
   intro k0 k1 k2 h
   clear k0
   refine iT h ?p2 ?n2 <;> clear h
   case p2 =>
    intro k3 h
    simp only [Option.some.injEq, Prod.mk.injEq] at h
    obtain ⟨rfl, rfl⟩ := h
    have HY := aS hy
    clear hy
    go_enter Tryd.func166, Tryd.ntmps166
    go_upto_region 4 with (first | ((with_reducible refine q07 (N := 3) rfl ?_); refine box1 rfl (N := 3) rfl (cs := #[.int .i64 e0, .int .i64 e1, .int .i64 e2, .int .i64 e3, .string e4, .string e5, .int .i64 e6, .string e7, .slice A8 l8.length c8, .string e9, .int .i64 e10, .slice A11 l11.length c11]) (t := 87) zh ?_; intro gb wb BK GB HS; have HI1 := aS (IsEd.below HI.out HS.out); have HB1 := aS (q01 HB.out HS.out); have HN1 := aS (show g ≠ gb from fun e_ => by have := q0a HI.out.1; have := GB.out; omega); clear HI HB HS; have HI := HI1; have HB := HB1; clear HI1 HB1; obtain ⟨hb0, hb1, hb2, hb3, hb4, hb5, hb6, hb7, hb8, hb9, hb10, hb11⟩ := bk12 BK.out) | (go_at_call 180; refine (q17 HI.out _ h0.out h1.out).mono ?_; rintro e w' ⟨rfl, rfl⟩))
    obtain ⟨A2, c2, A5, c5, x0, x1, x2, x3, x4, x5, -, -, -, -, hfz⟩ := IsEd.elem HI.out e1 h0.out h1.out
    rw [HY.out] at x0 x1 x2 x3 x4 x5
    go_wp2
    go_ret
    exact ⟨rfl, HI.out, HB.out⟩
   case n2 =>
    intro k3 h
    refine iTp h ?_
    clear h
    intro k4 h
    obtain ⟨i, hi, h⟩ := Option.bind_eq_some_iff.1 h
    have HX := aS hi
    clear hi
    refine iGp h ?_
    clear h
    intro ⟨d1, d2⟩ h
    simp only [Option.some.injEq, Prod.mk.injEq] at h
    obtain ⟨rfl, rfl⟩ := h
    obtain ⟨j, rfl⟩ := Int.eq_ofNat_of_zero_le d1
    have HJ := aS (show j < (q00 ns y.f4).f5.length by omega)
    clear d1 d2
    have g0 := aS (show 0 ≤ y.f4 from Int.not_lt.1 (of_decide_eq_false k3))
    have g1 := aS (show y.f4 < (ns.length : Int) from of_decide_eq_true k4)
    have p0 := eq_true g0.out
    have p1 := eq_true g1.out
    have HY := aS hy
    clear hy
    go_enter Tryd.func166, Tryd.ntmps166
    go_upto_region 4 with (first | ((with_reducible refine q07 (N := 3) rfl ?_); refine box1 rfl (N := 3) rfl (cs := #[.int .i64 e0, .int .i64 e1, .int .i64 e2, .int .i64 e3, .string e4, .string e5, .int .i64 e6, .string e7, .slice A8 l8.length c8, .string e9, .int .i64 e10, .slice A11 l11.length c11]) (t := 87) zh ?_; intro gb wb BK GB HS; have HI1 := aS (IsEd.below HI.out HS.out); have HB1 := aS (q01 HB.out HS.out); have HN1 := aS (show g ≠ gb from fun e_ => by have := q0a HI.out.1; have := GB.out; omega); clear HI HB HS; have HI := HI1; have HB := HB1; clear HI1 HB1; obtain ⟨hb0, hb1, hb2, hb3, hb4, hb5, hb6, hb7, hb8, hb9, hb10, hb11⟩ := bk12 BK.out) | (go_at_call 180; refine (q17 HI.out _ h0.out h1.out).mono ?_; rintro e w' ⟨rfl, rfl⟩))
    obtain ⟨A2, c2, A5, c5, x0, x1, x2, x3, x4, x5, -, -, -, -, hfz⟩ := IsEd.elem HI.out e1 h0.out h1.out
    rw [HY.out] at x0 x1 x2 x3 x4 x5
    have hf4 := hfz 4
    obtain ⟨hz0, hz1, hz2, -, -, -⟩ := bk3 HI.out.1
    obtain ⟨oki, A5', c5', y5, hf5, R5, hok, put5⟩ := IsEd.row5 HI.out y.f4 g0.out g1.out
    have HCK := aS (Kd.R_reads' R5).2.2
    have HLK := aS (Kd.R_reads' R5).2.1
    obtain ⟨g2, cap2, he2, -, -, -⟩ := Kd.R_form R5 (Nat.lt_of_le_of_lt (Nat.zero_le _) HJ.out)
    obtain rfl : A5' = some ⟨g2, 0, none⟩ := (by injection he2)
    obtain rfl : c5' = cap2 := (by injection he2)
    clear he2
    obtain ⟨cur, -, -, hcm⟩ := Cl.R_row R5
    have hj2 : (j : Int) + 1 ≤ 9223372036854775807 := (by have := HJ.out; have := (Kd.R_reads' R5).2.1; unfold maxLen at hcm; omega)
    have HD : Aside0 (∀ n_ : Nat, _) := aS (fun n_ : Nat => slices_Delete_int_int.del oki w0.heap.size g2 c5' _ j (wb.drewN n_) (Kd.R_drewN R5 n_) HB.out.size HJ.out)
    have HPUT := aS (fun n_ : Nat => (IsEd.row5 (IsEd.drewN HI.out n_) y.f4 g0.out g1.out))
    have HOK := aS hok
    have HR5 := aS R5
    have HP5 := aS (@put5)
    have HX4 := aS x4
    have HY5 := aS y5
    have HNE : Aside0 (some b ≠ some g2) := ⟨fun e_ => (hok g2 (R5.1 g2 (by simp [Value.ownBlock]))).2 (Option.some.inj e_).symm⟩
    clear put5 R5 hok hcm cur hfz x1 x2 x3 x5
    go_wp2
    go_quiet (fail)
    go_wp2
    go_quiet ((go_at_call 77; (with_reducible refine (slices_Index_int_int.calls k _ _ _ e1 _ _ ?s1 ?s2 HX.out).mono ?_); (case s1 => repeat (first | (with_reducible exact HCK.out) | (with_reducible refine Kd.C_drewN ?_ _) | (with_reducible refine Kd.C_drew ?_))); (case s2 => exact HLK.out); rintro e w' ⟨rfl, ⟨nd, rfl⟩⟩; (try first | exact ⟨rfl, _, World.drewN_drewN _ _ _⟩ | exact ⟨rfl, _, Eq.trans (World.drewN_drewN _ _ _) (congrArg (World.drewN _) (Nat.add_assoc _ _ _))⟩)))
    go_wp2_with (go_at_call 183; refine (HD.out _).mono ?_; rintro e w7 ⟨rfl, hr7, hg7⟩; replace x4 := hg7.cell (show (wb.drewN _).cell? _ = _ from HX4.out) HNE.out; replace hf4 := (ed_frozen hg7 HNE.out (show (wb.drewN _).cell? _ = _ from HX4.out)).trans hf4; replace y5 := hg7.cell (show (wb.drewN _).cell? _ = _ from HY5.out) HNE.out; replace hf5 := (ed_frozen hg7 HNE.out (show (wb.drewN _).cell? _ = _ from HY5.out)).trans hf5; have HR7 := aS hr7; have HG7 := aS hg7; clear hr7 hg7)
    go_ret
    have hG := HG7.out
    have hA := HP5.out (w1 := w7) ⟨hG.os, hG.tape, hG.output, hG.size, hG.block⟩ (Kd.R_mono HR7.out (fun _ hk => .inl hk))
    refine ⟨rfl, IsEd.put hA e1 h0.out (by rw [List.length_set]; exact h1.out) _ 4 _ (by decide) (fun ok v2 v5 g2 g5 => q28 _ w0.heap.size ok { q00 (ns.set y.f4.toNat { q00 ns y.f4 with f5 := (q00 ns y.f4).f5.eraseIdx j }) e1 with f4 := -1 } g2 g5), ?_⟩
    exact q08 (q08 (ed_below_grown (W := wb) HB.out HR5.out ⟨hG.os, hG.tape, hG.output, hG.size, hG.block⟩) (IsEd.ge HI.out).1) (IsEd.ge HI.out).1
 ·have h2 := (if_neg hr).symm.trans h
  clear h
  simp only [Option.some.injEq, Prod.mk.injEq] at h2
  obtain ⟨rfl, rfl⟩ := h2
  have HO := aS (show e1 < 0 ∨ (ns.length : Int) ≤ e1 by omega)
  clear hr
  go_enter Tryd.func166, Tryd.ntmps166
  go_wp2_with (first | ((with_reducible refine q07 (N := 3) rfl ?_); refine box1 rfl (N := 3) rfl (cs := #[.int .i64 e0, .int .i64 e1, .int .i64 e2, .int .i64 e3, .string e4, .string e5, .int .i64 e6, .string e7, .slice A8 l8.length c8, .string e9, .int .i64 e10, .slice A11 l11.length c11]) (t := 87) zh ?_; intro gb wb BK GB HS; have HI1 := aS (IsEd.below HI.out HS.out); have HB1 := aS (q01 HB.out HS.out); have HN1 := aS (show g ≠ gb from fun e_ => by have := q0a HI.out.1; have := GB.out; omega); clear HI HB HS; have HI := HI1; have HB := HB1; clear HI1 HB1; obtain ⟨hb0, hb1, hb2, hb3, hb4, hb5, hb6, hb7, hb8, hb9, hb10, hb11⟩ := bk12 BK.out) | (go_at_call 180; refine (ed_node0 HI.out _ HO.out).mono ?_; rintro e w' ⟨rfl, rfl⟩))
  go_ret
  exact ⟨rfl, HI.out, HB.out⟩
theorem IsEd.heap {w0 W W1 : World} {g b c : Nat} {ns : List S43} {q : Bool} {m : Int} (h : IsEd w0 W g b c ns q m) (hm : ∀ k : Nat, W1.heap[k]? = W.heap[k]?) : IsEd w0 W1 g b c ns q m := ⟨(hm g).trans h.1, h.2.1, Kd.S_move h.2.2 (fun k _ => hm k)⟩
theorem ed_self {w : World} {g i : Nat} {u : Value} (h : w.cell? ⟨g, i, none⟩ = some u) (k : Nat) : (w.setCell ⟨g, i, none⟩ u).heap[k]? = w.heap[k]? := by
 by_cases hk : k = g
 ·subst hk
  simp only [World.setCell, Array.getElem?_modify, if_true]
  unfold World.cell? at h
  cases hb : w.heap[k]? with
  | none => rfl
  | some o =>
   rw [hb] at h
   cases o with
   | cells cs t f =>
    simp only [Option.isSome_none, Bool.false_eq_true, if_false] at h
    obtain ⟨hl, he⟩ := Array.getElem?_eq_some_iff.1 h
    simp only [Option.map_some, Option.some.injEq]
    have : cs.setIfInBounds i u = cs := by
     apply Array.ext (by simp)
     intro a h1 h2
     rw [Array.getElem_setIfInBounds (by simpa using h2)]
     by_cases e : i = a
     ·subst e; simp [he]
     ·simp [e]
    simp [this]
   | _ => simp at h
 ·exact Below.heap_setCell w _ u k hk
theorem IsEd.in2 {w0 W : World} {g b c : Nat} {ns : List S43} {q : Bool} {m : Int} (i : Int) {A2 : Option Addr} {c2 : Nat} {oki : Nat → Prop} {l' : List S122} {w1 : World}
 (hx : W.cell? ⟨b, i.toNat * 6 + 2, none⟩ = some (.slice A2 (q00 ns i).f2.length c2)) (hne : some b ≠ (Value.slice A2 (q00 ns i).f2.length c2).ownBlock) (hg : W.grownBy w1 (Value.slice A2 (q00 ns i).f2.length c2).ownBlock)
 (hr : k122.R 122 w1 w0.heap.size oki (.slice A2 (q00 ns i).f2.length c2) l')
 (put : ∀ {w1 : World} {l' : List S122} {v2' : Value}, W.grownBy w1 (Value.slice A2 (q00 ns i).f2.length c2).ownBlock → k122.R 122 w1 w0.heap.size (fun k => oki k ∨ k ≠ g ∧ W.heap.size ≤ k) v2' l' →
  IsEd w0 (w1.setCell ⟨b, i.toNat * 6 + 2, none⟩ v2') g b c (ns.set i.toNat { q00 ns i with f2 := l' }) q m) :
 IsEd w0 w1 g b c (ns.set i.toNat { q00 ns i with f2 := l' }) q m :=
 IsEd.heap (put hg (Kd.R_mono hr (fun _ hk => .inl hk))) (fun k => (ed_self (hg.cell hx hne) k).symm)
theorem ed_attr {W : World} {base : Nat} {oki : Nat → Prop} {g2 n c2 : Nat} {l : List S122} (hr : k122.R 122 W base oki (.slice (some ⟨g2, 0, none⟩) n c2) l) (j : Nat) (hj : j < n) (u : ByteArray) :
 k122.R 122 (W.setCell ⟨g2, j * 2 + 1, none⟩ (.string u)) base oki (.slice (some ⟨g2, 0, none⟩) n c2) (l.set j { l.getD j z122 with f1 := u }) ∧ W.grownBy (W.setCell ⟨g2, j * 2 + 1, none⟩ (.string u)) (some g2) ∧ W.cell? ⟨g2, j * 2 + 1, none⟩ = some (.string (l.getD j z122).f1) ∧ W.frozen? ⟨g2, j * 2 + 1, none⟩ = false := by
 obtain ⟨cs, hcl, hM, hcc, hfz⟩ := Kd.R_elem hr z122 (j : Int) (by omega) (by omega)
 have e := k122_openM hM
 subst e
 obtain ⟨s1, s2⟩ := Kd.R_seg hr (j : Int) (by omega) (by omega) (seg := [.string u]) (j := 1) hcl hcc (show 1 + 1 ≤ 2 by decide) (okp := fun _ => False) (k122_mkM W base (fun _ => False) { l.getD j z122 with f1 := u }) (fun _ hk => hk.elim)
 exact ⟨s1, s2, hcc 1 _ rfl, hfz 1⟩
theorem rd43_set {ns : List S43} {i : Int} {x : S43} (h : i.toNat < ns.length) : q00 (ns.set i.toNat x) i = x := by
 unfold q00; rw [List.getD_eq_getElem?_getD, List.getElem?_set_self h]; rfl
def edVal (ns : List S43) (n : Int) (j : Nat) (u : ByteArray) : List S43 := ns.set n.toNat { q00 ns n with f2 := (q00 ns n).f2.set j { (q00 ns n).f2.getD j z122 with f1 := u } }
def edAttr (ns : List S43) (n : Int) (nm u : ByteArray) : Option (List S43 × Int) :=
 if q23 ns n ≠ 0 then some (ns, q23 ns n) else (dom_find.f (q00 ns n).f2 nm).bind fun i => (dom_attrName.f nm).bind fun a => if a = false then some (ns, 3) else
  if (400 : Int) < (u.size : Int) then some (ns, 2) else if i < 0 then (if (q00 ns n).f2.length = 12 then some (ns, 2) else if (q00 ns n).f2.length ≤ 1000000 then
   some (edVal (ns.set n.toNat { q00 ns n with f2 := (q00 ns n).f2 ++ [⟨nm, .empty⟩] }) n (q00 ns n).f2.length u, 0) else none) else
  if i < ((q00 ns n).f2.length : Int) then some (edVal ns n i.toNat u, 0) else none
set_option maxHeartbeats 8000000 in
set_option maxRecDepth 100000 in
theorem ed_attrib {w0 W : World} {g b c : Nat} {ns ns' : List S43} {q : Bool} {m r : Int} (hI : IsEd w0 W g b c ns q m) (hB : Below w0.heap.size w0 W) (e0 e1 e2 e3 : Int) (e4 e5 : ByteArray) (e6 : Int) (e7 : ByteArray) (A8 : Option Addr) (c8 : Nat) (l8 : List S122) (e9 : ByteArray) (e10 : Int) (A11 : Option Addr) (c11 : Nat) (l11 : List Int) (h : edAttr ns e1 e4 e5 = some (ns', r)) :
 Calls Tryd.prog 161 #[.pointer (some ⟨g, 0, none⟩), .agg #[.int .i64 e0, .int .i64 e1, .int .i64 e2, .int .i64 e3, .string e4, .string e5, .int .i64 e6, .string e7, .slice A8 l8.length c8, .string e9, .int .i64 e10, .slice A11 l11.length c11]] W fun e w' => e = .returned (.int .i64 r) ∧ IsEd w0 w' g b c ns' q m ∧ Below w0.heap.size w0 w' := by
 have hu87 := Tryd.underlying87
 have hu43 := Tryd.underlying43
 have hu41 := Tryd.underlying41
 have hu122 := Tryd.underlying122
 have HI := aS hI
 have HB := aS hB
 clear hI hB
 unfold edAttr at h
 by_cases he : q23 ns e1 = 0
 ·rw [if_neg (fun hn => hn he)] at h
  obtain ⟨i0, i1, ik⟩ := edElem_zero he
  have h0 := aS i0
  have h1 := aS i1
  have HK := aS ik
  clear i0 i1 ik he
  obtain ⟨x, hx⟩ : ∃ x, q00 ns e1 = x := ⟨_, rfl⟩
  have HX := aS hx
  obtain ⟨i, hi, h⟩ := Option.bind_eq_some_iff.1 h
  have HF := aS hi
  clear hi
  obtain ⟨a, ha, h⟩ := Option.bind_eq_some_iff.1 h
  have HA := aS ha
  clear ha
  rw [hx] at h
  clear hx
  cases a
  ·have h2 := (if_pos rfl).symm.trans h
   clear h
   simp only [Option.some.injEq, Prod.mk.injEq] at h2
   obtain ⟨rfl, rfl⟩ := h2
   go_enter Tryd.func161, Tryd.ntmps161
   go_wp2_with (first | ((with_reducible refine q07 (N := 3) rfl ?_); refine box1 rfl (N := 3) rfl (cs := #[.int .i64 e0, .int .i64 e1, .int .i64 e2, .int .i64 e3, .string e4, .string e5, .int .i64 e6, .string e7, .slice A8 l8.length c8, .string e9, .int .i64 e10, .slice A11 l11.length c11]) (t := 87) zh ?_; intro gb wb BK GB HS; have HI1 := aS (IsEd.below HI.out HS.out); have HB1 := aS (q01 HB.out HS.out); have HN1 := aS (show g ≠ gb from fun e_ => by have := q0a HI.out.1; have := GB.out; omega); clear HI HB HS; have HI := HI1; have HB := HB1; clear HI1 HB1; obtain ⟨hb0, hb1, hb2, hb3, hb4, hb5, hb6, hb7, hb8, hb9, hb10, hb11⟩ := bk12 BK.out) | (go_at_call 178; refine (ed_elem1 HI.out _ h0.out h1.out HK.out).mono ?_; rintro e w' ⟨rfl, rfl⟩))
   obtain ⟨oki, A2, c2, x2, hf2, R2, hok, put2⟩ := IsEd.row2 HI.out e1 h0.out h1.out
   have HRR := aS R2
   clear R2 hok put2 hf2
   go_wp2_with fail
   go_still_tail 6, (by kernel_rfl)
   change wpList _ _ _ _ _ wb.drew
   have HI2 := aS (IsEd.drewN HI.out 1)
   have HB2 := aS (show Below w0.heap.size w0 wb.drew from q0g HB.out)
   clear HI HB
   go_wp2_with (first | (go_at_call 112; refine (dom_find.calls A2 c2 _ e4 _ _ (Kd.C_drew (Kd.R_reads' HRR.out).2.2) (Kd.R_reads' HRR.out).2.1 HF.out).mono ?_; rintro e w6 ⟨rfl, hbl⟩; have HI := aS (IsEd.below (W := wb.drew) HI2.out hbl); have HB := aS (q01 HB2.out hbl); have BK6 := aS (q02 (w := wb.drew) BK.out hbl); clear HI2 HB2 HRR x2 hbl BK hb0 hb1 hb2 hb3 hb4 hb5 hb6 hb7 hb8 hb9 hb10 hb11; have BK := BK6; clear BK6; obtain ⟨hb0, hb1, hb2, hb3, hb4, hb5, hb6, hb7, hb8, hb9, hb10, hb11⟩ := bk12 BK.out) | (go_at_call 160; refine (dom_attrName.calls e4 _ _ HA.out).mono ?_; rintro e w7 ⟨rfl, hbl⟩; have HI7 := aS (IsEd.below HI.out hbl); have HB7 := aS (q01 HB.out hbl); have BK7 := aS (q02 BK.out hbl); clear HI HB hbl BK hb0 hb1 hb2 hb3 hb4 hb5 hb6 hb7 hb8 hb9 hb10 hb11; have HI := HI7; have HB := HB7; have BK := BK7; clear HI7 HB7 BK7; obtain ⟨hb0, hb1, hb2, hb3, hb4, hb5, hb6, hb7, hb8, hb9, hb10, hb11⟩ := bk12 BK.out; obtain ⟨oki, A2, c2, x2, hf2, R2, hok, put2⟩ := IsEd.row2 HI.out e1 h0.out h1.out; rw [HX.out] at x2 R2 put2; have HR2 := aS R2; have HX2 := aS x2; have HF2 := aS hf2; have HP2 := aS (@put2); have HOK := aS hok; clear R2 hok put2))
   go_ret
   exact ⟨rfl, HI.out, HB.out⟩
  ·have h2 := (if_neg (by decide)).symm.trans h
   clear h
   by_cases cs : (400 : Int) < (e5.size : Int)
   ·have h := (if_pos cs).symm.trans h2
    clear h2
    simp only [Option.some.injEq, Prod.mk.injEq] at h
    obtain ⟨rfl, rfl⟩ := h
    have cs1 : decide ((400 : Int) < (e5.size : Int)) = true := decide_eq_true cs
    have cs2 : decide (400 < e5.size) = true := decide_eq_true (by omega)
    clear cs
    go_enter Tryd.func161, Tryd.ntmps161
    go_wp2_with (first | ((with_reducible refine q07 (N := 3) rfl ?_); refine box1 rfl (N := 3) rfl (cs := #[.int .i64 e0, .int .i64 e1, .int .i64 e2, .int .i64 e3, .string e4, .string e5, .int .i64 e6, .string e7, .slice A8 l8.length c8, .string e9, .int .i64 e10, .slice A11 l11.length c11]) (t := 87) zh ?_; intro gb wb BK GB HS; have HI1 := aS (IsEd.below HI.out HS.out); have HB1 := aS (q01 HB.out HS.out); have HN1 := aS (show g ≠ gb from fun e_ => by have := q0a HI.out.1; have := GB.out; omega); clear HI HB HS; have HI := HI1; have HB := HB1; clear HI1 HB1; obtain ⟨hb0, hb1, hb2, hb3, hb4, hb5, hb6, hb7, hb8, hb9, hb10, hb11⟩ := bk12 BK.out) | (go_at_call 178; refine (ed_elem1 HI.out _ h0.out h1.out HK.out).mono ?_; rintro e w' ⟨rfl, rfl⟩))
    obtain ⟨oki, A2, c2, x2, hf2, R2, hok, put2⟩ := IsEd.row2 HI.out e1 h0.out h1.out
    have HRR := aS R2
    clear R2 hok put2 hf2
    go_wp2_with fail
    go_still_tail 6, (by kernel_rfl)
    change wpList _ _ _ _ _ wb.drew
    have HI2 := aS (IsEd.drewN HI.out 1)
    have HB2 := aS (show Below w0.heap.size w0 wb.drew from q0g HB.out)
    clear HI HB
    go_wp2_with (first | (go_at_call 112; refine (dom_find.calls A2 c2 _ e4 _ _ (Kd.C_drew (Kd.R_reads' HRR.out).2.2) (Kd.R_reads' HRR.out).2.1 HF.out).mono ?_; rintro e w6 ⟨rfl, hbl⟩; have HI := aS (IsEd.below (W := wb.drew) HI2.out hbl); have HB := aS (q01 HB2.out hbl); have BK6 := aS (q02 (w := wb.drew) BK.out hbl); clear HI2 HB2 HRR x2 hbl BK hb0 hb1 hb2 hb3 hb4 hb5 hb6 hb7 hb8 hb9 hb10 hb11; have BK := BK6; clear BK6; obtain ⟨hb0, hb1, hb2, hb3, hb4, hb5, hb6, hb7, hb8, hb9, hb10, hb11⟩ := bk12 BK.out) | (go_at_call 160; refine (dom_attrName.calls e4 _ _ HA.out).mono ?_; rintro e w7 ⟨rfl, hbl⟩; have HI7 := aS (IsEd.below HI.out hbl); have HB7 := aS (q01 HB.out hbl); have BK7 := aS (q02 BK.out hbl); clear HI HB hbl BK hb0 hb1 hb2 hb3 hb4 hb5 hb6 hb7 hb8 hb9 hb10 hb11; have HI := HI7; have HB := HB7; have BK := BK7; clear HI7 HB7 BK7; obtain ⟨hb0, hb1, hb2, hb3, hb4, hb5, hb6, hb7, hb8, hb9, hb10, hb11⟩ := bk12 BK.out; obtain ⟨oki, A2, c2, x2, hf2, R2, hok, put2⟩ := IsEd.row2 HI.out e1 h0.out h1.out; rw [HX.out] at x2 R2 put2; have HR2 := aS R2; have HX2 := aS x2; have HF2 := aS hf2; have HP2 := aS (@put2); have HOK := aS hok; clear R2 hok put2))
    go_ret
    exact ⟨rfl, HI.out, HB.out⟩
   ·have h := (if_neg cs).symm.trans h2
    clear h2
    have cs1 : decide ((400 : Int) < (e5.size : Int)) = false := decide_eq_false cs
    have cs2 : decide (400 < e5.size) = false := decide_eq_false (by omega)
    clear cs
    by_cases c0 : i < 0
    ·have h2 := (if_pos c0).symm.trans h
     clear h
     have cb : decide (i < 0) = true := decide_eq_true c0
     clear c0
     by_cases c1 : x.f2.length = 12
     ·have h := (if_pos c1).symm.trans h2
      clear h2
      simp only [Option.some.injEq, Prod.mk.injEq] at h
      obtain ⟨rfl, rfl⟩ := h
      have d1 : ((x.f2.length : Int) == 12) = true := beq_iff_eq.mpr (by omega)
      have d2 : (x.f2.length == 12) = true := beq_iff_eq.mpr c1
      clear c1
      go_enter Tryd.func161, Tryd.ntmps161
      go_wp2_with (first | ((with_reducible refine q07 (N := 3) rfl ?_); refine box1 rfl (N := 3) rfl (cs := #[.int .i64 e0, .int .i64 e1, .int .i64 e2, .int .i64 e3, .string e4, .string e5, .int .i64 e6, .string e7, .slice A8 l8.length c8, .string e9, .int .i64 e10, .slice A11 l11.length c11]) (t := 87) zh ?_; intro gb wb BK GB HS; have HI1 := aS (IsEd.below HI.out HS.out); have HB1 := aS (q01 HB.out HS.out); have HN1 := aS (show g ≠ gb from fun e_ => by have := q0a HI.out.1; have := GB.out; omega); clear HI HB HS; have HI := HI1; have HB := HB1; clear HI1 HB1; obtain ⟨hb0, hb1, hb2, hb3, hb4, hb5, hb6, hb7, hb8, hb9, hb10, hb11⟩ := bk12 BK.out) | (go_at_call 178; refine (ed_elem1 HI.out _ h0.out h1.out HK.out).mono ?_; rintro e w' ⟨rfl, rfl⟩))
      obtain ⟨oki, A2, c2, x2, hf2, R2, hok, put2⟩ := IsEd.row2 HI.out e1 h0.out h1.out
      have HRR := aS R2
      clear R2 hok put2 hf2
      go_wp2_with fail
      go_still_tail 6, (by kernel_rfl)
      change wpList _ _ _ _ _ wb.drew
      have HI2 := aS (IsEd.drewN HI.out 1)
      have HB2 := aS (show Below w0.heap.size w0 wb.drew from q0g HB.out)
      clear HI HB
      go_wp2_with (first | (go_at_call 112; refine (dom_find.calls A2 c2 _ e4 _ _ (Kd.C_drew (Kd.R_reads' HRR.out).2.2) (Kd.R_reads' HRR.out).2.1 HF.out).mono ?_; rintro e w6 ⟨rfl, hbl⟩; have HI := aS (IsEd.below (W := wb.drew) HI2.out hbl); have HB := aS (q01 HB2.out hbl); have BK6 := aS (q02 (w := wb.drew) BK.out hbl); clear HI2 HB2 HRR x2 hbl BK hb0 hb1 hb2 hb3 hb4 hb5 hb6 hb7 hb8 hb9 hb10 hb11; have BK := BK6; clear BK6; obtain ⟨hb0, hb1, hb2, hb3, hb4, hb5, hb6, hb7, hb8, hb9, hb10, hb11⟩ := bk12 BK.out) | (go_at_call 160; refine (dom_attrName.calls e4 _ _ HA.out).mono ?_; rintro e w7 ⟨rfl, hbl⟩; have HI7 := aS (IsEd.below HI.out hbl); have HB7 := aS (q01 HB.out hbl); have BK7 := aS (q02 BK.out hbl); clear HI HB hbl BK hb0 hb1 hb2 hb3 hb4 hb5 hb6 hb7 hb8 hb9 hb10 hb11; have HI := HI7; have HB := HB7; have BK := BK7; clear HI7 HB7 BK7; obtain ⟨hb0, hb1, hb2, hb3, hb4, hb5, hb6, hb7, hb8, hb9, hb10, hb11⟩ := bk12 BK.out; obtain ⟨oki, A2, c2, x2, hf2, R2, hok, put2⟩ := IsEd.row2 HI.out e1 h0.out h1.out; rw [HX.out] at x2 R2 put2; have HR2 := aS R2; have HX2 := aS x2; have HF2 := aS hf2; have HP2 := aS (@put2); have HOK := aS hok; clear R2 hok put2))
      go_ret
      exact ⟨rfl, HI.out, HB.out⟩
     ·have h := (if_neg c1).symm.trans h2
      clear h2
      refine iGp h ?_
      clear h
      intro c2 h
      simp only [Option.some.injEq, Prod.mk.injEq] at h
      obtain ⟨rfl, rfl⟩ := h
      have d1 : ((x.f2.length : Int) == 12) = false := beq_eq_false_iff_ne.mpr (by omega)
      have d2 : (x.f2.length == 12) = false := beq_eq_false_iff_ne.mpr c1
      have HL := aS c2
      clear c1 c2
      obtain ⟨ns1, hns1⟩ : ∃ ns1, ns.set e1.toNat { x with f2 := x.f2 ++ [(⟨e4, .empty⟩ : S122)] } = ns1 := ⟨_, rfl⟩
      rw [hns1]
      have HNS := aS hns1
      clear hns1
      go_enter Tryd.func161, Tryd.ntmps161
      go_wp2_with (first | ((with_reducible refine q07 (N := 3) rfl ?_); refine box1 rfl (N := 3) rfl (cs := #[.int .i64 e0, .int .i64 e1, .int .i64 e2, .int .i64 e3, .string e4, .string e5, .int .i64 e6, .string e7, .slice A8 l8.length c8, .string e9, .int .i64 e10, .slice A11 l11.length c11]) (t := 87) zh ?_; intro gb wb BK GB HS; have HI1 := aS (IsEd.below HI.out HS.out); have HB1 := aS (q01 HB.out HS.out); have HN1 := aS (show g ≠ gb from fun e_ => by have := q0a HI.out.1; have := GB.out; omega); clear HI HB HS; have HI := HI1; have HB := HB1; clear HI1 HB1; obtain ⟨hb0, hb1, hb2, hb3, hb4, hb5, hb6, hb7, hb8, hb9, hb10, hb11⟩ := bk12 BK.out) | (go_at_call 178; refine (ed_elem1 HI.out _ h0.out h1.out HK.out).mono ?_; rintro e w' ⟨rfl, rfl⟩))
      obtain ⟨oki, A2, c2, x2, hf2, R2, hok, put2⟩ := IsEd.row2 HI.out e1 h0.out h1.out
      have HRR := aS R2
      clear R2 hok put2 hf2
      go_wp2_with fail
      go_still_tail 6, (by kernel_rfl)
      change wpList _ _ _ _ _ wb.drew
      have HI2 := aS (IsEd.drewN HI.out 1)
      have HB2 := aS (show Below w0.heap.size w0 wb.drew from q0g HB.out)
      clear HI HB
      go_upto_region 10 with (first | (go_at_call 112; refine (dom_find.calls A2 c2 _ e4 _ _ (Kd.C_drew (Kd.R_reads' HRR.out).2.2) (Kd.R_reads' HRR.out).2.1 HF.out).mono ?_; rintro e w6 ⟨rfl, hbl⟩; have HI := aS (IsEd.below (W := wb.drew) HI2.out hbl); have HB := aS (q01 HB2.out hbl); have BK6 := aS (q02 (w := wb.drew) BK.out hbl); clear HI2 HB2 HRR x2 hbl BK hb0 hb1 hb2 hb3 hb4 hb5 hb6 hb7 hb8 hb9 hb10 hb11; have BK := BK6; clear BK6; obtain ⟨hb0, hb1, hb2, hb3, hb4, hb5, hb6, hb7, hb8, hb9, hb10, hb11⟩ := bk12 BK.out) | (go_at_call 160; refine (dom_attrName.calls e4 _ _ HA.out).mono ?_; rintro e w7 ⟨rfl, hbl⟩; have HI7 := aS (IsEd.below HI.out hbl); have HB7 := aS (q01 HB.out hbl); have BK7 := aS (q02 BK.out hbl); clear HI HB hbl BK hb0 hb1 hb2 hb3 hb4 hb5 hb6 hb7 hb8 hb9 hb10 hb11; have HI := HI7; have HB := HB7; have BK := BK7; clear HI7 HB7 BK7; obtain ⟨hb0, hb1, hb2, hb3, hb4, hb5, hb6, hb7, hb8, hb9, hb10, hb11⟩ := bk12 BK.out; obtain ⟨oki, A2, c2, x2, hf2, R2, hok, put2⟩ := IsEd.row2 HI.out e1 h0.out h1.out; rw [HX.out] at x2 R2 put2; have HR2 := aS R2; have HX2 := aS x2; have HF2 := aS hf2; have HP2 := aS (@put2); have HOK := aS hok; clear R2 hok put2))
      have hgb : ¬ gb = b := fun e_ => by
       obtain ⟨cs_, hc_⟩ := Kd.S_typed HI.out.2.2 b (by simp [Value.ownBlock])
       have hk_ := BK.out
       rw [e_, hc_] at hk_
       injection hk_ with hk_
       injection hk_ with _ hk_ _
       exact absurd hk_ (by decide)
      have HNB : Aside0 (some b ≠ (Value.slice A2 x.f2.length c2).ownBlock) := ⟨fun e_ => (HOK.out b (HR2.out.1 b e_.symm)).2 rfl⟩
      have x2a := Lib.cell?_alloc_some (o := Obj.cells #[.string e4, .string ⟨#[]⟩] 122) x2
      have hb4a := Lib.cell?_alloc_some (o := Obj.cells #[.string e4, .string ⟨#[]⟩] 122) hb4
      go_region_law (refine Kd.R_append_step k122 (w0 := w0) (W := w7.drew) w0.heap.size ?hw (.tmp 54) (.tmp 58) 41 122 (.agg #[(.string ⟨#[]⟩), (.string ⟨#[]⟩)]) 32 rfl Tryd.underlying41 q1u rfl (by decide) (by decide) (.slice A2 x.f2.length c2) x.f2 ⟨e4, .empty⟩ [.string e4, .string .empty] (fun k => oki k ∨ k ≠ g ∧ w7.heap.size ≤ k) (fun _ => False) rfl rfl (k122_mkM _ _ _ _) (fun _ hk => hk.elim) ?aF ?aO (q0g HB.out) ?aS ?aL ?_; (case hw => rfl); (case aF => exact fun k hk => .inr ⟨(fun e_ => by have h1_ := q0a HI.out.1; have h2_ : w7.heap.size ≤ k := hk; omega), hk⟩); (case aO => exact Kd.R_mono (Kd.R_drew HR2.out) (fun _ hk => .inl hk)); (case aS => exact HB.out.size); (case aL => (have := HL.out; omega)); intro v8 w8 hr8 hbl8 hg8 hat8; obtain ⟨A8_, c8_, e8_⟩ := Kd.R_slice hr8; rw [show (x.f2 ++ [(⟨e4, .empty⟩ : S122)]).length = x.f2.length + 1 from by rw [List.length_append]; rfl] at e8_; subst e8_; have hG := Cl.grown_step (q1x (w := w7) (q0g (Below.refl _ _)) _) hg8; replace x2 := hG.cell HX2.out HNB.out; replace hf2 := (ed_frozen hG HNB.out HX2.out).trans HF2.out; have HR8 := aS hr8; have HB8 := aS hbl8; have HG8 := aS hG; have HK8 := aS ((hG.block gb (q0a BK.out) (Kd.R_ne HR2.out BK.out (by decide))).trans BK.out); clear hr8 hbl8 hg8 hat8 hG x2a hb4a hb0 hb1 hb2 hb3 hb4 hb5 hb6 hb7 hb8 hb9 hb10 hb11)
      all_goals
       have HI9 := aS (HP2.out HG8.out HR8.out)
       have HB9 := aS (q08 (j := e1.toNat * 6 + 2) (v := .slice A8_ (x.f2.length + 1) c8_) HB8.out (IsEd.ge HI.out).1)
       have HK9 := aS ((Below.heap_setCell w8 ⟨b, e1.toNat * 6 + 2, none⟩ (.slice A8_ (x.f2.length + 1) c8_) gb hgb).trans HK8.out)
       generalize w8.setCell ⟨b, e1.toNat * 6 + 2, none⟩ (.slice A8_ (x.f2.length + 1) c8_) = wq at HI9 HB9 HK9 ⊢
       clear HI HB BK HX2 HF2 HR2 HP2 HOK HR8 HB8 HG8 HK8 HNB x2 hf2
       have HI := HI9
       have HB := HB9
       have BK := HK9
       clear HI9 HB9 HK9
       obtain ⟨hb0, hb1, hb2, hb3, hb4, hb5, hb6, hb7, hb8, hb9, hb10, hb11⟩ := bk12 BK.out
       have HI : Aside0 (IsEd w0 wq g b c ns1 q m) := by rw [← HNS.out]; exact HI
       have hx1 : q00 ns1 e1 = { x with f2 := x.f2 ++ [(⟨e4, .empty⟩ : S122)] } := by rw [← HNS.out]; exact rd43_set (by have := h1.out; have := h0.out; omega)
       obtain ⟨x1, hx2⟩ : ∃ x1, q00 ns1 e1 = x1 := ⟨_, rfl⟩
       have HL1 : Aside0 (x1.f2.length = x.f2.length + 1) := ⟨by rw [← hx2, hx1]; simp⟩
       have hl1 : (ns1.length : Int) = ns.length := by rw [← HNS.out, List.length_set]
       have HJ : Aside0 (x.f2.length < x1.f2.length) := ⟨by have := HL1.out; omega⟩
       clear HX hx1
       have HX := aS hx2
       clear hx2
       obtain ⟨oki, A2, c2, x2, hf2, R2, hok, put2⟩ := IsEd.row2 HI.out e1 h0.out (by have := h1.out; omega)
       rw [HX.out] at x2 R2 put2
       have HR2 := aS R2
       have HX2 := aS x2
       have HF2 := aS hf2
       have HP2 := aS (@put2)
       have HOK := aS hok
       clear R2 hok put2
       rw [HL1.out] at x2
       have hw1 : IntKind.i64.wrap (x.f2.length : Int) = x.f2.length := wrap_small _ (by omega) (by have := HL.out; omega)
       have hw2 : wrap64 (x.f2.length : Int) = x.f2.length := by rw [← q0d]; exact hw1
       go_wp2
       obtain ⟨g2, cap2, he2, -, -, -⟩ := Kd.R_form HR2.out (Nat.lt_of_le_of_lt (Nat.zero_le _) HJ.out)
       obtain rfl : A2 = some ⟨g2, 0, none⟩ := (by injection he2)
       clear he2
       obtain ⟨hr8, hg8, y2, yf2⟩ := ed_attr HR2.out x.f2.length HJ.out e5
       have HR8 := aS hr8
       have HG8 := aS hg8
       clear hr8 hg8
       have HG2 := aS (Kd.R_base HR2.out g2 (by simp [Value.ownBlock]))
       have HNB : Aside0 (some b ≠ some g2) := ⟨fun e_ => (HOK.out g2 (HR2.out.1 g2 (by simp [Value.ownBlock]))).2 (Option.some.inj e_).symm⟩
       go_wp2_with fail
       go_region
       all_goals
        go_wp2
        go_ret
        exact ⟨rfl, IsEd.drew (IsEd.in2 (oki := oki) e1 (by rw [HX.out]; exact HX2.out) (by exact HNB.out) (by exact HG8.out) (by rw [HX.out]; exact HR8.out) (by rw [HX.out]; exact HP2.out)), q0g (q08 HB.out HG2.out)⟩
    ·have h2 := (if_neg c0).symm.trans h
     clear h
     refine iGp h2 ?_
     clear h2
     intro c1 h
     simp only [Option.some.injEq, Prod.mk.injEq] at h
     obtain ⟨rfl, rfl⟩ := h
     have cb : decide (i < 0) = false := decide_eq_false c0
     obtain ⟨j, rfl⟩ := Int.eq_ofNat_of_zero_le (Int.not_lt.1 c0)
     have HJ := aS (show j < x.f2.length by omega)
     have hj1 : decide ((0 : Int) ≤ (j : Int)) = true := decide_eq_true (by omega)
     have hj2 : decide ((j : Int) < (x.f2.length : Int)) = true := decide_eq_true c1
     have hj3 : j < x.f2.length := HJ.out
     clear c0 c1
     go_enter Tryd.func161, Tryd.ntmps161
     go_wp2_with (first | ((with_reducible refine q07 (N := 3) rfl ?_); refine box1 rfl (N := 3) rfl (cs := #[.int .i64 e0, .int .i64 e1, .int .i64 e2, .int .i64 e3, .string e4, .string e5, .int .i64 e6, .string e7, .slice A8 l8.length c8, .string e9, .int .i64 e10, .slice A11 l11.length c11]) (t := 87) zh ?_; intro gb wb BK GB HS; have HI1 := aS (IsEd.below HI.out HS.out); have HB1 := aS (q01 HB.out HS.out); have HN1 := aS (show g ≠ gb from fun e_ => by have := q0a HI.out.1; have := GB.out; omega); clear HI HB HS; have HI := HI1; have HB := HB1; clear HI1 HB1; obtain ⟨hb0, hb1, hb2, hb3, hb4, hb5, hb6, hb7, hb8, hb9, hb10, hb11⟩ := bk12 BK.out) | (go_at_call 178; refine (ed_elem1 HI.out _ h0.out h1.out HK.out).mono ?_; rintro e w' ⟨rfl, rfl⟩))
     obtain ⟨oki, A2, c2, x2, hf2, R2, hok, put2⟩ := IsEd.row2 HI.out e1 h0.out h1.out
     have HRR := aS R2
     clear R2 hok put2 hf2
     go_wp2_with fail
     go_still_tail 6, (by kernel_rfl)
     change wpList _ _ _ _ _ wb.drew
     have HI2 := aS (IsEd.drewN HI.out 1)
     have HB2 := aS (show Below w0.heap.size w0 wb.drew from q0g HB.out)
     clear HI HB
     go_upto_region 12 with (first | (go_at_call 112; refine (dom_find.calls A2 c2 _ e4 _ _ (Kd.C_drew (Kd.R_reads' HRR.out).2.2) (Kd.R_reads' HRR.out).2.1 HF.out).mono ?_; rintro e w6 ⟨rfl, hbl⟩; have HI := aS (IsEd.below (W := wb.drew) HI2.out hbl); have HB := aS (q01 HB2.out hbl); have BK6 := aS (q02 (w := wb.drew) BK.out hbl); clear HI2 HB2 HRR x2 hbl BK hb0 hb1 hb2 hb3 hb4 hb5 hb6 hb7 hb8 hb9 hb10 hb11; have BK := BK6; clear BK6; obtain ⟨hb0, hb1, hb2, hb3, hb4, hb5, hb6, hb7, hb8, hb9, hb10, hb11⟩ := bk12 BK.out) | (go_at_call 160; refine (dom_attrName.calls e4 _ _ HA.out).mono ?_; rintro e w7 ⟨rfl, hbl⟩; have HI7 := aS (IsEd.below HI.out hbl); have HB7 := aS (q01 HB.out hbl); have BK7 := aS (q02 BK.out hbl); clear HI HB hbl BK hb0 hb1 hb2 hb3 hb4 hb5 hb6 hb7 hb8 hb9 hb10 hb11; have HI := HI7; have HB := HB7; have BK := BK7; clear HI7 HB7 BK7; obtain ⟨hb0, hb1, hb2, hb3, hb4, hb5, hb6, hb7, hb8, hb9, hb10, hb11⟩ := bk12 BK.out; obtain ⟨oki, A2, c2, x2, hf2, R2, hok, put2⟩ := IsEd.row2 HI.out e1 h0.out h1.out; rw [HX.out] at x2 R2 put2; have HR2 := aS R2; have HX2 := aS x2; have HF2 := aS hf2; have HP2 := aS (@put2); have HOK := aS hok; clear R2 hok put2))
     obtain ⟨g2, cap2, he2, -, -, -⟩ := Kd.R_form HR2.out (Nat.lt_of_le_of_lt (Nat.zero_le _) HJ.out)
     obtain rfl : A2 = some ⟨g2, 0, none⟩ := (by injection he2)
     clear he2
     obtain ⟨hr8, hg8, y2, yf2⟩ := ed_attr HR2.out j HJ.out e5
     have HR8 := aS hr8
     have HG8 := aS hg8
     clear hr8 hg8
     have HG2 := aS (Kd.R_base HR2.out g2 (by simp [Value.ownBlock]))
     have HNB : Aside0 (some b ≠ some g2) := ⟨fun e_ => (HOK.out g2 (HR2.out.1 g2 (by simp [Value.ownBlock]))).2 (Option.some.inj e_).symm⟩
     go_wp2_with fail
     go_region
     all_goals
      go_wp2
      go_ret
      exact ⟨rfl, IsEd.drew (IsEd.in2 (oki := oki) e1 (by rw [HX.out]; exact HX2.out) (by exact HNB.out) (by exact HG8.out) (by rw [HX.out]; exact HR8.out) (by rw [HX.out]; exact HP2.out)), q0g (q08 HB.out HG2.out)⟩
 ·rw [if_pos he] at h
  simp only [Option.some.injEq, Prod.mk.injEq] at h
  obtain ⟨rfl, rfl⟩ := h
  have HE := aS he
  have cb : (q23 ns e1 == 0) = false := beq_eq_false_iff_ne.mpr he
  have cb' : (q23 ns e1 != 0) = true := bne_iff_ne.mpr he
  clear he
  go_enter Tryd.func161, Tryd.ntmps161
  go_wp2_with (first | ((with_reducible refine q07 (N := 3) rfl ?_); refine box1 rfl (N := 3) rfl (cs := #[.int .i64 e0, .int .i64 e1, .int .i64 e2, .int .i64 e3, .string e4, .string e5, .int .i64 e6, .string e7, .slice A8 l8.length c8, .string e9, .int .i64 e10, .slice A11 l11.length c11]) (t := 87) zh ?_; intro gb wb BK GB HS; have HI1 := aS (IsEd.below HI.out HS.out); have HB1 := aS (q01 HB.out HS.out); have HN1 := aS (show g ≠ gb from fun e_ => by have := q0a HI.out.1; have := GB.out; omega); clear HI HB HS; have HI := HI1; have HB := HB1; clear HI1 HB1; obtain ⟨hb0, hb1, hb2, hb3, hb4, hb5, hb6, hb7, hb8, hb9, hb10, hb11⟩ := bk12 BK.out) | (go_at_call 178; refine (ed_elem0 HI.out _ _ rfl HE.out).mono ?_; rintro e w' ⟨rfl, rfl⟩))
  go_ret
  exact ⟨rfl, HI.out, HB.out⟩
def edText (ns : List S43) (n : Int) (s : ByteArray) : List S43 × Int :=
 if 0 ≤ n ∧ n < (ns.length : Int) then (if (q00 ns n).f0 ≠ 3 ∧ (q00 ns n).f0 ≠ 4 then (ns, 7) else if 400 < s.size then (ns, 2) else (ns.set n.toNat { q00 ns n with f3 := s }, 0)) else (ns, 5)
set_option maxHeartbeats 4000000 in
set_option maxRecDepth 100000 in
theorem ed_text {w0 W : World} {g b c : Nat} {ns : List S43} {q : Bool} {m : Int} (hI : IsEd w0 W g b c ns q m) (hB : Below w0.heap.size w0 W) (e0 e1 e2 e3 : Int) (e4 e5 : ByteArray) (e6 : Int) (e7 : ByteArray) (A8 : Option Addr) (c8 : Nat) (l8 : List S122) (e9 : ByteArray) (e10 : Int) (A11 : Option Addr) (c11 : Nat) (l11 : List Int) :
 Calls Tryd.prog 163 #[.pointer (some ⟨g, 0, none⟩), .agg #[.int .i64 e0, .int .i64 e1, .int .i64 e2, .int .i64 e3, .string e4, .string e5, .int .i64 e6, .string e7, .slice A8 l8.length c8, .string e9, .int .i64 e10, .slice A11 l11.length c11]] W fun e w' => e = .returned (.int .i64 (edText ns e1 e5).2) ∧ IsEd w0 w' g b c (edText ns e1 e5).1 q m ∧ Below w0.heap.size w0 w' := by
 have hu87 := Tryd.underlying87
 have hu43 := Tryd.underlying43
 have HI := aS hI
 have HB := aS hB
 clear hI hB
 unfold edText
 by_cases hr : 0 ≤ e1 ∧ e1 < (ns.length : Int)
 ·rw [if_pos hr]
  have h0 := aS hr.1
  have h1 := aS hr.2
  clear hr
  obtain ⟨kd, hkd⟩ : ∃ kd, (q00 ns e1).f0 = kd := ⟨_, rfl⟩
  have HK := aS hkd
  by_cases hk : kd ≠ 3 ∧ kd ≠ 4
  ·rw [hkd, if_pos hk]
   have k3 : (kd == 3) = false := beq_eq_false_iff_ne.mpr hk.1
   have k3' : (kd != 3) = true := bne_iff_ne.mpr hk.1
   have k4 : (kd == 4) = false := beq_eq_false_iff_ne.mpr hk.2
   have k4' : (kd != 4) = true := bne_iff_ne.mpr hk.2
   clear hk hkd
   go_enter Tryd.func163, Tryd.ntmps163
   go_upto_region 4 with (first | ((with_reducible refine q07 (N := 3) rfl ?_); refine box1 rfl (N := 3) rfl (cs := #[.int .i64 e0, .int .i64 e1, .int .i64 e2, .int .i64 e3, .string e4, .string e5, .int .i64 e6, .string e7, .slice A8 l8.length c8, .string e9, .int .i64 e10, .slice A11 l11.length c11]) (t := 87) zh ?_; intro gb wb BK GB HS; have HI1 := aS (IsEd.below HI.out HS.out); have HB1 := aS (q01 HB.out HS.out); have HN1 := aS (show g ≠ gb from fun e_ => by have := q0a HI.out.1; have := GB.out; omega); clear HI HB HS; have HI := HI1; have HB := HB1; clear HI1 HB1; obtain ⟨hb0, hb1, hb2, hb3, hb4, hb5, hb6, hb7, hb8, hb9, hb10, hb11⟩ := bk12 BK.out) | (go_at_call 180; refine (q17 HI.out _ h0.out h1.out).mono ?_; rintro e w' ⟨rfl, rfl⟩))
   obtain ⟨A2, c2, A5, c5, x0, x1, x2, x3, x4, x5, -, -, -, -, hfz⟩ := IsEd.elem HI.out e1 h0.out h1.out
   rw [HK.out] at x0
   go_wp2
   go_ret
   exact ⟨rfl, HI.out, HB.out⟩
  ·rw [hkd, if_neg hk]
   have hk2 : kd = 3 ∨ kd = 4 := by
    by_cases c : kd = 3
    ·exact .inl c
    ·by_cases c' : kd = 4
     ·exact .inr c'
     ·exact absurd ⟨c, c'⟩ hk
   have k3 : (kd == 3) = decide (kd = 3) := rfl
   clear hk hkd
   by_cases hs : 400 < e5.size
   ·rw [if_pos hs]
    have hs1 : decide ((400 : Int) < (e5.size : Int)) = true := decide_eq_true (by omega)
    have hs2 : decide (400 < e5.size) = true := decide_eq_true hs
    clear hs k3
    rcases hk2 with rfl | rfl
    all_goals
     go_enter Tryd.func163, Tryd.ntmps163
     go_upto_region 4 with (first | ((with_reducible refine q07 (N := 3) rfl ?_); refine box1 rfl (N := 3) rfl (cs := #[.int .i64 e0, .int .i64 e1, .int .i64 e2, .int .i64 e3, .string e4, .string e5, .int .i64 e6, .string e7, .slice A8 l8.length c8, .string e9, .int .i64 e10, .slice A11 l11.length c11]) (t := 87) zh ?_; intro gb wb BK GB HS; have HI1 := aS (IsEd.below HI.out HS.out); have HB1 := aS (q01 HB.out HS.out); have HN1 := aS (show g ≠ gb from fun e_ => by have := q0a HI.out.1; have := GB.out; omega); clear HI HB HS; have HI := HI1; have HB := HB1; clear HI1 HB1; obtain ⟨hb0, hb1, hb2, hb3, hb4, hb5, hb6, hb7, hb8, hb9, hb10, hb11⟩ := bk12 BK.out) | (go_at_call 180; refine (q17 HI.out _ h0.out h1.out).mono ?_; rintro e w' ⟨rfl, rfl⟩))
     obtain ⟨A2, c2, A5, c5, x0, x1, x2, x3, x4, x5, -, -, -, -, hfz⟩ := IsEd.elem HI.out e1 h0.out h1.out
     rw [HK.out] at x0
     go_wp2
     go_ret
     exact ⟨rfl, HI.out, HB.out⟩
   ·rw [if_neg hs]
    have hs1 : decide ((400 : Int) < (e5.size : Int)) = false := decide_eq_false (by omega)
    have hs2 : decide (400 < e5.size) = false := decide_eq_false hs
    clear hs k3
    rcases hk2 with rfl | rfl
    all_goals
     go_enter Tryd.func163, Tryd.ntmps163
     go_upto_region 4 with (first | ((with_reducible refine q07 (N := 3) rfl ?_); refine box1 rfl (N := 3) rfl (cs := #[.int .i64 e0, .int .i64 e1, .int .i64 e2, .int .i64 e3, .string e4, .string e5, .int .i64 e6, .string e7, .slice A8 l8.length c8, .string e9, .int .i64 e10, .slice A11 l11.length c11]) (t := 87) zh ?_; intro gb wb BK GB HS; have HI1 := aS (IsEd.below HI.out HS.out); have HB1 := aS (q01 HB.out HS.out); have HN1 := aS (show g ≠ gb from fun e_ => by have := q0a HI.out.1; have := GB.out; omega); clear HI HB HS; have HI := HI1; have HB := HB1; clear HI1 HB1; obtain ⟨hb0, hb1, hb2, hb3, hb4, hb5, hb6, hb7, hb8, hb9, hb10, hb11⟩ := bk12 BK.out) | (go_at_call 180; refine (q17 HI.out _ h0.out h1.out).mono ?_; rintro e w' ⟨rfl, rfl⟩))
     obtain ⟨A2, c2, A5, c5, x0, x1, x2, x3, x4, x5, -, -, -, -, hfz⟩ := IsEd.elem HI.out e1 h0.out h1.out
     rw [HK.out] at x0
     have hf3 := hfz 3
     clear hfz
     go_wp2
     go_ret
     exact ⟨rfl, IsEd.put HI.out e1 h0.out h1.out _ 3 _ (by decide) (fun ok v2 v5 g2 g5 => q28 _ w0.heap.size ok { q00 ns e1 with f3 := e5 } g2 g5), q08 HB.out (IsEd.ge HI.out).1⟩
 ·rw [if_neg hr]
  have HO := aS (show e1 < 0 ∨ (ns.length : Int) ≤ e1 by omega)
  clear hr
  go_enter Tryd.func163, Tryd.ntmps163
  go_wp2_with (first | ((with_reducible refine q07 (N := 3) rfl ?_); refine box1 rfl (N := 3) rfl (cs := #[.int .i64 e0, .int .i64 e1, .int .i64 e2, .int .i64 e3, .string e4, .string e5, .int .i64 e6, .string e7, .slice A8 l8.length c8, .string e9, .int .i64 e10, .slice A11 l11.length c11]) (t := 87) zh ?_; intro gb wb BK GB HS; have HI1 := aS (IsEd.below HI.out HS.out); have HB1 := aS (q01 HB.out HS.out); have HN1 := aS (show g ≠ gb from fun e_ => by have := q0a HI.out.1; have := GB.out; omega); clear HI HB HS; have HI := HI1; have HB := HB1; clear HI1 HB1; obtain ⟨hb0, hb1, hb2, hb3, hb4, hb5, hb6, hb7, hb8, hb9, hb10, hb11⟩ := bk12 BK.out) | (go_at_call 180; refine (ed_node0 HI.out _ HO.out).mono ?_; rintro e w' ⟨rfl, rfl⟩))
  go_ret
  exact ⟨rfl, HI.out, HB.out⟩
end Go.Proofs.YthjnallbbhnndaaDoor.XDe
namespace Go.Proofs.YthjnallbbhnndaaDoor.XDe
open Go.Proofs.YthjnallbbhnndaaDoor.Short Go.RowKit Go.Proofs.YthjnallbbhnndaaDoorW.PrintWords Go.Proofs.YthjnallbbhnndaaDoorW.PrintLast Go.Proofs.YthjnallbbhnndaaDoorW.PrintMore
attribute [local go_sem] q16 q14 q1g q1f q0s q0r q15 q13   -- for this text's walks alone
set_option linter.unusedVariables false
set_option linter.unusedSimpArgs false
theorem IsEd.made {w0 W : World} {g b c : Nat} {ns : List S43} {q : Bool} {m : Int} (h : IsEd w0 W g b c ns q m) (m' : Int) : IsEd w0 (W.setCell ⟨g, 2, none⟩ (.int .i64 m')) g b c ns q m' := ⟨(q0h h.1 2 _).trans rfl, h.2.1, Kd.S_far h.2.2 (fun _ hk => hk) _⟩
theorem IsEd.push {w0 W : World} {g b8 c8 : Nat} {v0 : Value} {ns : List S43} {p : S43} {q : Bool} {m : Int} (hb : W.heap[g]? = some (.cells #[v0, .bool q, .int .i64 m] 147 (0, 0))) (hg : w0.heap.size ≤ g) (hs : Kd.S k43 43 W w0.heap.size (fun k => k ≠ g) (.slice (some ⟨b8, 0, none⟩) (ns.length + 1) c8) (ns ++ [p])) :
 IsEd w0 (W.setCell ⟨g, 0, none⟩ (.slice (some ⟨b8, 0, none⟩) (ns.length + 1) c8)) g b8 c8 (ns ++ [p]) q m := by
 have hl : (ns ++ [p]).length = ns.length + 1 := by rw [List.length_append]; rfl
 refine ⟨?_, hg, ?_⟩
 ·rw [hl]; exact (q0h hb 0 _).trans rfl
 ·rw [hl]; exact Kd.S_far hs (fun _ hk => hk) _
theorem ed_six {w wx : World} {g t : Nat} {v0 v1 v2 v3 v4 v5 u0 u1 u2 u3 u4 u5 : Value} (hb : Below w.heap.size w wx) (hg : w.heap.size ≤ g) (h : wx.heap[g]? = some (.cells #[v0, v1, v2, v3, v4, v5] t (0, 0))) :
 Below w.heap.size w ((((((wx.setCell ⟨g, 0, none⟩ u0).setCell ⟨g, 1, none⟩ u1).setCell ⟨g, 2, none⟩ u2).setCell ⟨g, 3, none⟩ u3).setCell ⟨g, 4, none⟩ u4).setCell ⟨g, 5, none⟩ u5) ∧
 ((((((wx.setCell ⟨g, 0, none⟩ u0).setCell ⟨g, 1, none⟩ u1).setCell ⟨g, 2, none⟩ u2).setCell ⟨g, 3, none⟩ u3).setCell ⟨g, 4, none⟩ u4).setCell ⟨g, 5, none⟩ u5).heap[g]? = some (.cells #[u0, u1, u2, u3, u4, u5] t (0, 0)) :=
 ⟨q08 (q08 (q08 (q08 (q08 (q08 hb hg) hg) hg) hg) hg) hg, q0h (q0h (q0h (q0h (q0h (q0h h 0 u0) 1 u1) 2 u2) 3 u3) 4 u4) 5 u5⟩
def edMake (k : Nat) (ns : List S43) (m : Int) (x0 : Int) (x1 : ByteArray) (x2 : List S122) (x3 : ByteArray) (x4 : Int) (x5 : List Int) : Option (List S43 × Int × Int) :=
 if 0 < x5.length then some (ns, m, 3) else if x0 = 1 then some (ns, m, 7) else (dom_one.f k x0 x1 x2 x3 x4 x5).bind fun r => if r ≠ 0 then some (ns, m, r) else if ns.length = 200 then some (ns, m, 2) else
  if ns.length ≤ 1000000 ∧ x2.length * 32 ≤ 140737488355328 then some (ns ++ [⟨x0, x1, x2, x3, -1, []⟩], ns.length, 0) else none
set_option maxHeartbeats 8000000 in
set_option maxRecDepth 100000 in
theorem ed_make {w0 W : World} {g b c : Nat} {ns ns' : List S43} {q : Bool} {m m' r : Int} (k : Nat) (hI : IsEd w0 W g b c ns q m) (hB : Below w0.heap.size w0 W) (e0 e1 e2 e3 : Int) (e4 e5 : ByteArray) (e6 : Int) (e7 : ByteArray) (A8 : Option Addr) (c8 : Nat) (l8 : List S122) (e9 : ByteArray) (e10 : Int) (A11 : Option Addr) (c11 : Nat) (l11 : List Int) (hC8 : Kd.C k122 w0 A8 l8.length l8) (hL8 : l8.length ≤ c8) (hC11 : Kd.C (Kd.int .i64) w0 A11 l11.length l11) (hL11 : l11.length ≤ c11) (h : edMake k ns m e6 e7 l8 e9 e10 l11 = some (ns', m', r)) :
 Calls Tryd.prog 164 #[.pointer (some ⟨g, 0, none⟩), .agg #[.int .i64 e0, .int .i64 e1, .int .i64 e2, .int .i64 e3, .string e4, .string e5, .int .i64 e6, .string e7, .slice A8 l8.length c8, .string e9, .int .i64 e10, .slice A11 l11.length c11]] W fun e w' => e = .returned (.int .i64 r) ∧ (∃ b' c', IsEd w0 w' g b' c' ns' q m') ∧ Below w0.heap.size w0 w' := by
 have hu87 := Tryd.underlying87
 have hu43 := Tryd.underlying43
 have hu147 := Tryd.underlying147
 have hu24 := Tryd.underlying24
 have hu22 := Tryd.underlying22
 have HI := aS hI
 have HB := aS hB
 have HC8 := aS hC8
 have HC11 := aS hC11
 have HL8 := aS hL8
 have HL11 := aS hL11
 clear hI hB hC8 hC11 hL8 hL11
 unfold edMake at h
 by_cases hk : 0 < l11.length
 ·have h2 := (if_pos hk).symm.trans h
  clear h
  simp only [Option.some.injEq, Prod.mk.injEq] at h2
  obtain ⟨rfl, rfl, rfl⟩ := h2
  have k1 : decide (0 < l11.length) = true := decide_eq_true hk
  have k2 : decide ((0 : Int) < (l11.length : Int)) = true := decide_eq_true (by omega)
  clear hk
  go_enter Tryd.func164, Tryd.ntmps164
  go_upto_region 2 with (first | ((with_reducible refine q07 (N := 3) rfl ?_); refine box1 rfl (N := 3) rfl (cs := #[.int .i64 e0, .int .i64 e1, .int .i64 e2, .int .i64 e3, .string e4, .string e5, .int .i64 e6, .string e7, .slice A8 l8.length c8, .string e9, .int .i64 e10, .slice A11 l11.length c11]) (t := 87) zh ?_; intro gb wb BK GB HS; have HI1 := aS (IsEd.below HI.out HS.out); have HB1 := aS (q01 HB.out HS.out); have HN1 := aS (show g ≠ gb from fun e_ => by have := q0a HI.out.1; have := GB.out; omega); clear HI HB HS; have HI := HI1; have HB := HB1; clear HI1 HB1; obtain ⟨hb0, hb1, hb2, hb3, hb4, hb5, hb6, hb7, hb8, hb9, hb10, hb11⟩ := bk12 BK.out) | ((with_reducible refine q07 (N := 5) rfl ?_); refine box1 rfl (N := 5) rfl (cs := #[.int .i64 0, .string (⟨#[]⟩ : ByteArray), .slice none 0 0, .string (⟨#[]⟩ : ByteArray), .int .i64 0, .slice none 0 0]) (t := 43) zh ?_; intro gx wx XK GX XS; have BK1 := aS (q02 BK.out XS.out); have HN2 := aS (show gb ≠ gx from fun e_ => by have := q0a BK.out; have := GX.out; omega); clear hb0 hb1 hb2 hb3 hb4 hb5 hb6 hb7 hb8 hb9 hb10 hb11; obtain ⟨hb0, hb1, hb2, hb3, hb4, hb5, hb6, hb7, hb8, hb9, hb10, hb11⟩ := bk12 BK1.out; obtain ⟨hx0, hx1, hx2, hx3, hx4, hx5, hxf0, hxf1, hxf2, hxf3, hxf4, hxf5⟩ := bk6 XK.out))
  have HS6 := aS (ed_six XS.out GX.out XK.out (u0 := .int .i64 e6) (u1 := .string e7) (u2 := .slice A8 l8.length c8) (u3 := .string e9) (u4 := .int .i64 e10) (u5 := .slice A11 l11.length c11))
  clear hb0 hb1 hb2 hb3 hb4 hb5 hb6 hb7 hb8 hb9 hb10 hb11 hx0 hx1 hx2 hx3 hx4 hx5 hxf0 hxf1 hxf2 hxf3 hxf4 hxf5
  generalize ((((((wx.setCell ⟨gx, 0, none⟩ (.int .i64 e6)).setCell ⟨gx, 1, none⟩ (.string e7)).setCell ⟨gx, 2, none⟩ (.slice A8 l8.length c8)).setCell ⟨gx, 3, none⟩ (.string e9)).setCell ⟨gx, 4, none⟩ (.int .i64 e10)).setCell ⟨gx, 5, none⟩ (.slice A11 l11.length c11)) = wq at HS6 ⊢
  have HI1 := aS (IsEd.below HI.out HS6.out.1)
  have HB1 := aS (q01 HB.out HS6.out.1)
  have HX1 := aS HS6.out.2
  have HN3 := aS (show g ≠ gx from fun e_ => by have := q0a HI.out.1; have := GX.out; omega)
  clear HI HB BK BK1 XK XS HS6 GX HN2 GB HN1
  have HI := HI1
  have HB := HB1
  have XK := HX1
  clear HI1 HB1 HX1
  obtain ⟨hx0, hx1, hx2, hx3, hx4, hx5, -, -, -, -, -, -⟩ := bk6 XK.out
  go_wp2
  go_ret
  exact ⟨rfl, ⟨_, _, HI.out⟩, HB.out⟩
 ·have h2 := (if_neg hk).symm.trans h
  clear h
  have k1 : decide (0 < l11.length) = false := decide_eq_false hk
  have k2 : decide ((0 : Int) < (l11.length : Int)) = false := decide_eq_false (by omega)
  clear hk
  by_cases hd : e6 = 1
  ·have h := (if_pos hd).symm.trans h2
   clear h2
   simp only [Option.some.injEq, Prod.mk.injEq] at h
   obtain ⟨rfl, rfl, rfl⟩ := h
   have d1 : (e6 == 1) = true := beq_iff_eq.mpr hd
   clear hd
   go_enter Tryd.func164, Tryd.ntmps164
   go_upto_region 2 with (first | ((with_reducible refine q07 (N := 3) rfl ?_); refine box1 rfl (N := 3) rfl (cs := #[.int .i64 e0, .int .i64 e1, .int .i64 e2, .int .i64 e3, .string e4, .string e5, .int .i64 e6, .string e7, .slice A8 l8.length c8, .string e9, .int .i64 e10, .slice A11 l11.length c11]) (t := 87) zh ?_; intro gb wb BK GB HS; have HI1 := aS (IsEd.below HI.out HS.out); have HB1 := aS (q01 HB.out HS.out); have HN1 := aS (show g ≠ gb from fun e_ => by have := q0a HI.out.1; have := GB.out; omega); clear HI HB HS; have HI := HI1; have HB := HB1; clear HI1 HB1; obtain ⟨hb0, hb1, hb2, hb3, hb4, hb5, hb6, hb7, hb8, hb9, hb10, hb11⟩ := bk12 BK.out) | ((with_reducible refine q07 (N := 5) rfl ?_); refine box1 rfl (N := 5) rfl (cs := #[.int .i64 0, .string (⟨#[]⟩ : ByteArray), .slice none 0 0, .string (⟨#[]⟩ : ByteArray), .int .i64 0, .slice none 0 0]) (t := 43) zh ?_; intro gx wx XK GX XS; have BK1 := aS (q02 BK.out XS.out); have HN2 := aS (show gb ≠ gx from fun e_ => by have := q0a BK.out; have := GX.out; omega); clear hb0 hb1 hb2 hb3 hb4 hb5 hb6 hb7 hb8 hb9 hb10 hb11; obtain ⟨hb0, hb1, hb2, hb3, hb4, hb5, hb6, hb7, hb8, hb9, hb10, hb11⟩ := bk12 BK1.out; obtain ⟨hx0, hx1, hx2, hx3, hx4, hx5, hxf0, hxf1, hxf2, hxf3, hxf4, hxf5⟩ := bk6 XK.out))
   have HS6 := aS (ed_six XS.out GX.out XK.out (u0 := .int .i64 e6) (u1 := .string e7) (u2 := .slice A8 l8.length c8) (u3 := .string e9) (u4 := .int .i64 e10) (u5 := .slice A11 l11.length c11))
   clear hb0 hb1 hb2 hb3 hb4 hb5 hb6 hb7 hb8 hb9 hb10 hb11 hx0 hx1 hx2 hx3 hx4 hx5 hxf0 hxf1 hxf2 hxf3 hxf4 hxf5
   generalize ((((((wx.setCell ⟨gx, 0, none⟩ (.int .i64 e6)).setCell ⟨gx, 1, none⟩ (.string e7)).setCell ⟨gx, 2, none⟩ (.slice A8 l8.length c8)).setCell ⟨gx, 3, none⟩ (.string e9)).setCell ⟨gx, 4, none⟩ (.int .i64 e10)).setCell ⟨gx, 5, none⟩ (.slice A11 l11.length c11)) = wq at HS6 ⊢
   have HI1 := aS (IsEd.below HI.out HS6.out.1)
   have HB1 := aS (q01 HB.out HS6.out.1)
   have HX1 := aS HS6.out.2
   have HN3 := aS (show g ≠ gx from fun e_ => by have := q0a HI.out.1; have := GX.out; omega)
   clear HI HB BK BK1 XK XS HS6 GX HN2 GB HN1
   have HI := HI1
   have HB := HB1
   have XK := HX1
   clear HI1 HB1 HX1
   obtain ⟨hx0, hx1, hx2, hx3, hx4, hx5, -, -, -, -, -, -⟩ := bk6 XK.out
   go_wp2
   go_ret
   exact ⟨rfl, ⟨_, _, HI.out⟩, HB.out⟩
  ·have h := (if_neg hd).symm.trans h2
   clear h2
   have d1 : (e6 == 1) = false := beq_eq_false_iff_ne.mpr hd
   clear hd
   obtain ⟨r1, hr1, h⟩ := Option.bind_eq_some_iff.1 h
   have HO := aS hr1
   clear hr1
   by_cases hz : r1 ≠ 0
   ·have h2 := (if_pos hz).symm.trans h
    clear h
    simp only [Option.some.injEq, Prod.mk.injEq] at h2
    obtain ⟨rfl, rfl, rfl⟩ := h2
    have z1 : (r1 == 0) = false := beq_eq_false_iff_ne.mpr hz
    have z2 : (r1 != 0) = true := bne_iff_ne.mpr hz
    clear hz
    go_enter Tryd.func164, Tryd.ntmps164
    go_upto_region 2 with (first | ((with_reducible refine q07 (N := 3) rfl ?_); refine box1 rfl (N := 3) rfl (cs := #[.int .i64 e0, .int .i64 e1, .int .i64 e2, .int .i64 e3, .string e4, .string e5, .int .i64 e6, .string e7, .slice A8 l8.length c8, .string e9, .int .i64 e10, .slice A11 l11.length c11]) (t := 87) zh ?_; intro gb wb BK GB HS; have HI1 := aS (IsEd.below HI.out HS.out); have HB1 := aS (q01 HB.out HS.out); have HN1 := aS (show g ≠ gb from fun e_ => by have := q0a HI.out.1; have := GB.out; omega); clear HI HB HS; have HI := HI1; have HB := HB1; clear HI1 HB1; obtain ⟨hb0, hb1, hb2, hb3, hb4, hb5, hb6, hb7, hb8, hb9, hb10, hb11⟩ := bk12 BK.out) | ((with_reducible refine q07 (N := 5) rfl ?_); refine box1 rfl (N := 5) rfl (cs := #[.int .i64 0, .string (⟨#[]⟩ : ByteArray), .slice none 0 0, .string (⟨#[]⟩ : ByteArray), .int .i64 0, .slice none 0 0]) (t := 43) zh ?_; intro gx wx XK GX XS; have BK1 := aS (q02 BK.out XS.out); have HN2 := aS (show gb ≠ gx from fun e_ => by have := q0a BK.out; have := GX.out; omega); clear hb0 hb1 hb2 hb3 hb4 hb5 hb6 hb7 hb8 hb9 hb10 hb11; obtain ⟨hb0, hb1, hb2, hb3, hb4, hb5, hb6, hb7, hb8, hb9, hb10, hb11⟩ := bk12 BK1.out; obtain ⟨hx0, hx1, hx2, hx3, hx4, hx5, hxf0, hxf1, hxf2, hxf3, hxf4, hxf5⟩ := bk6 XK.out))
    have HS6 := aS (ed_six XS.out GX.out XK.out (u0 := .int .i64 e6) (u1 := .string e7) (u2 := .slice A8 l8.length c8) (u3 := .string e9) (u4 := .int .i64 e10) (u5 := .slice A11 l11.length c11))
    clear hb0 hb1 hb2 hb3 hb4 hb5 hb6 hb7 hb8 hb9 hb10 hb11 hx0 hx1 hx2 hx3 hx4 hx5 hxf0 hxf1 hxf2 hxf3 hxf4 hxf5
    generalize ((((((wx.setCell ⟨gx, 0, none⟩ (.int .i64 e6)).setCell ⟨gx, 1, none⟩ (.string e7)).setCell ⟨gx, 2, none⟩ (.slice A8 l8.length c8)).setCell ⟨gx, 3, none⟩ (.string e9)).setCell ⟨gx, 4, none⟩ (.int .i64 e10)).setCell ⟨gx, 5, none⟩ (.slice A11 l11.length c11)) = wq at HS6 ⊢
    have HI1 := aS (IsEd.below HI.out HS6.out.1)
    have HB1 := aS (q01 HB.out HS6.out.1)
    have HX1 := aS HS6.out.2
    have HN3 := aS (show g ≠ gx from fun e_ => by have := q0a HI.out.1; have := GX.out; omega)
    clear HI HB BK BK1 XK XS HS6 GX HN2 GB HN1
    have HI := HI1
    have HB := HB1
    have XK := HX1
    clear HI1 HB1 HX1
    obtain ⟨hx0, hx1, hx2, hx3, hx4, hx5, -, -, -, -, -, -⟩ := bk6 XK.out
    go_wp2_with (go_at_call 100; refine (dom_one.calls k e6 e7 A8 c8 l8 e9 e10 A11 c11 l11 _ _ (Kd.C_below HC8.out HB.out) HL8.out (Kd.C_below HC11.out HB.out) HL11.out HO.out).mono ?_; rintro e w7 ⟨rfl, hbl⟩; have HI7 := aS (IsEd.below HI.out hbl); have HB7 := aS (q01 HB.out hbl); have XK7 := aS (q02 XK.out hbl); clear HI HB hbl XK hx0 hx1 hx2 hx3 hx4 hx5; have HI := HI7; have HB := HB7; have XK := XK7; clear HI7 HB7 XK7; obtain ⟨hx0, hx1, hx2, hx3, hx4, hx5, -, -, -, -, -, -⟩ := bk6 XK.out; obtain ⟨hz0, hz1, hz2, hzf0, hzf1, hzf2⟩ := bk3 HI.out.1)
    go_ret
    exact ⟨rfl, ⟨_, _, HI.out⟩, HB.out⟩
   ·have h2 := (if_neg hz).symm.trans h
    clear h
    obtain rfl : r1 = 0 := Classical.not_not.1 hz
    clear hz
    by_cases hn : ns.length = 200
    ·have h := (if_pos hn).symm.trans h2
     clear h2
     simp only [Option.some.injEq, Prod.mk.injEq] at h
     obtain ⟨rfl, rfl, rfl⟩ := h
     have n1 : (ns.length == 200) = true := beq_iff_eq.mpr hn
     have n2 : ((ns.length : Int) == 200) = true := beq_iff_eq.mpr (by omega)
     clear hn
     go_enter Tryd.func164, Tryd.ntmps164
     go_upto_region 2 with (first | ((with_reducible refine q07 (N := 3) rfl ?_); refine box1 rfl (N := 3) rfl (cs := #[.int .i64 e0, .int .i64 e1, .int .i64 e2, .int .i64 e3, .string e4, .string e5, .int .i64 e6, .string e7, .slice A8 l8.length c8, .string e9, .int .i64 e10, .slice A11 l11.length c11]) (t := 87) zh ?_; intro gb wb BK GB HS; have HI1 := aS (IsEd.below HI.out HS.out); have HB1 := aS (q01 HB.out HS.out); have HN1 := aS (show g ≠ gb from fun e_ => by have := q0a HI.out.1; have := GB.out; omega); clear HI HB HS; have HI := HI1; have HB := HB1; clear HI1 HB1; obtain ⟨hb0, hb1, hb2, hb3, hb4, hb5, hb6, hb7, hb8, hb9, hb10, hb11⟩ := bk12 BK.out) | ((with_reducible refine q07 (N := 5) rfl ?_); refine box1 rfl (N := 5) rfl (cs := #[.int .i64 0, .string (⟨#[]⟩ : ByteArray), .slice none 0 0, .string (⟨#[]⟩ : ByteArray), .int .i64 0, .slice none 0 0]) (t := 43) zh ?_; intro gx wx XK GX XS; have BK1 := aS (q02 BK.out XS.out); have HN2 := aS (show gb ≠ gx from fun e_ => by have := q0a BK.out; have := GX.out; omega); clear hb0 hb1 hb2 hb3 hb4 hb5 hb6 hb7 hb8 hb9 hb10 hb11; obtain ⟨hb0, hb1, hb2, hb3, hb4, hb5, hb6, hb7, hb8, hb9, hb10, hb11⟩ := bk12 BK1.out; obtain ⟨hx0, hx1, hx2, hx3, hx4, hx5, hxf0, hxf1, hxf2, hxf3, hxf4, hxf5⟩ := bk6 XK.out))
     have HS6 := aS (ed_six XS.out GX.out XK.out (u0 := .int .i64 e6) (u1 := .string e7) (u2 := .slice A8 l8.length c8) (u3 := .string e9) (u4 := .int .i64 e10) (u5 := .slice A11 l11.length c11))
     clear hb0 hb1 hb2 hb3 hb4 hb5 hb6 hb7 hb8 hb9 hb10 hb11 hx0 hx1 hx2 hx3 hx4 hx5 hxf0 hxf1 hxf2 hxf3 hxf4 hxf5
     generalize ((((((wx.setCell ⟨gx, 0, none⟩ (.int .i64 e6)).setCell ⟨gx, 1, none⟩ (.string e7)).setCell ⟨gx, 2, none⟩ (.slice A8 l8.length c8)).setCell ⟨gx, 3, none⟩ (.string e9)).setCell ⟨gx, 4, none⟩ (.int .i64 e10)).setCell ⟨gx, 5, none⟩ (.slice A11 l11.length c11)) = wq at HS6 ⊢
     have HI1 := aS (IsEd.below HI.out HS6.out.1)
     have HB1 := aS (q01 HB.out HS6.out.1)
     have HX1 := aS HS6.out.2
     have HN3 := aS (show g ≠ gx from fun e_ => by have := q0a HI.out.1; have := GX.out; omega)
     clear HI HB BK BK1 XK XS HS6 GX HN2 GB HN1
     have HI := HI1
     have HB := HB1
     have XK := HX1
     clear HI1 HB1 HX1
     obtain ⟨hx0, hx1, hx2, hx3, hx4, hx5, -, -, -, -, -, -⟩ := bk6 XK.out
     go_wp2_with (go_at_call 100; refine (dom_one.calls k e6 e7 A8 c8 l8 e9 e10 A11 c11 l11 _ _ (Kd.C_below HC8.out HB.out) HL8.out (Kd.C_below HC11.out HB.out) HL11.out HO.out).mono ?_; rintro e w7 ⟨rfl, hbl⟩; have HI7 := aS (IsEd.below HI.out hbl); have HB7 := aS (q01 HB.out hbl); have XK7 := aS (q02 XK.out hbl); clear HI HB hbl XK hx0 hx1 hx2 hx3 hx4 hx5; have HI := HI7; have HB := HB7; have XK := XK7; clear HI7 HB7 XK7; obtain ⟨hx0, hx1, hx2, hx3, hx4, hx5, -, -, -, -, -, -⟩ := bk6 XK.out; obtain ⟨hz0, hz1, hz2, hzf0, hzf1, hzf2⟩ := bk3 HI.out.1)
     go_ret
     exact ⟨rfl, ⟨_, _, HI.out⟩, HB.out⟩
    ·have h := (if_neg hn).symm.trans h2
     clear h2
     refine iGp h ?_
     clear h
     intro ⟨c1, c2⟩ h
     simp only [Option.some.injEq, Prod.mk.injEq] at h
     obtain ⟨rfl, rfl, rfl⟩ := h
     have n1 : (ns.length == 200) = false := beq_eq_false_iff_ne.mpr hn
     have n2 : ((ns.length : Int) == 200) = false := beq_eq_false_iff_ne.mpr (by omega)
     have HL := aS c1
     have HCL : Aside0 (api_Attr_80.f l8 = some l8) := ⟨if_pos c2⟩
     clear hn c1 c2
     go_enter Tryd.func164, Tryd.ntmps164
     go_upto_region 2 with (first | ((with_reducible refine q07 (N := 3) rfl ?_); refine box1 rfl (N := 3) rfl (cs := #[.int .i64 e0, .int .i64 e1, .int .i64 e2, .int .i64 e3, .string e4, .string e5, .int .i64 e6, .string e7, .slice A8 l8.length c8, .string e9, .int .i64 e10, .slice A11 l11.length c11]) (t := 87) zh ?_; intro gb wb BK GB HS; have HI1 := aS (IsEd.below HI.out HS.out); have HB1 := aS (q01 HB.out HS.out); have HN1 := aS (show g ≠ gb from fun e_ => by have := q0a HI.out.1; have := GB.out; omega); clear HI HB HS; have HI := HI1; have HB := HB1; clear HI1 HB1; obtain ⟨hb0, hb1, hb2, hb3, hb4, hb5, hb6, hb7, hb8, hb9, hb10, hb11⟩ := bk12 BK.out) | ((with_reducible refine q07 (N := 5) rfl ?_); refine box1 rfl (N := 5) rfl (cs := #[.int .i64 0, .string (⟨#[]⟩ : ByteArray), .slice none 0 0, .string (⟨#[]⟩ : ByteArray), .int .i64 0, .slice none 0 0]) (t := 43) zh ?_; intro gx wx XK GX XS; have BK1 := aS (q02 BK.out XS.out); have HN2 := aS (show gb ≠ gx from fun e_ => by have := q0a BK.out; have := GX.out; omega); clear hb0 hb1 hb2 hb3 hb4 hb5 hb6 hb7 hb8 hb9 hb10 hb11; obtain ⟨hb0, hb1, hb2, hb3, hb4, hb5, hb6, hb7, hb8, hb9, hb10, hb11⟩ := bk12 BK1.out; obtain ⟨hx0, hx1, hx2, hx3, hx4, hx5, hxf0, hxf1, hxf2, hxf3, hxf4, hxf5⟩ := bk6 XK.out))
     have HS6 := aS (ed_six XS.out GX.out XK.out (u0 := .int .i64 e6) (u1 := .string e7) (u2 := .slice A8 l8.length c8) (u3 := .string e9) (u4 := .int .i64 e10) (u5 := .slice A11 l11.length c11))
     clear hb0 hb1 hb2 hb3 hb4 hb5 hb6 hb7 hb8 hb9 hb10 hb11 hx0 hx1 hx2 hx3 hx4 hx5 hxf0 hxf1 hxf2 hxf3 hxf4 hxf5
     generalize ((((((wx.setCell ⟨gx, 0, none⟩ (.int .i64 e6)).setCell ⟨gx, 1, none⟩ (.string e7)).setCell ⟨gx, 2, none⟩ (.slice A8 l8.length c8)).setCell ⟨gx, 3, none⟩ (.string e9)).setCell ⟨gx, 4, none⟩ (.int .i64 e10)).setCell ⟨gx, 5, none⟩ (.slice A11 l11.length c11)) = wq at HS6 ⊢
     have HI1 := aS (IsEd.below HI.out HS6.out.1)
     have HB1 := aS (q01 HB.out HS6.out.1)
     have HX1 := aS HS6.out.2
     have HN3 := aS (show g ≠ gx from fun e_ => by have := q0a HI.out.1; have := GX.out; omega)
     clear HI HB BK BK1 XK XS HS6 GX HN2 GB HN1
     have HI := HI1
     have HB := HB1
     have XK := HX1
     clear HI1 HB1 HX1
     obtain ⟨hx0, hx1, hx2, hx3, hx4, hx5, -, -, -, -, -, -⟩ := bk6 XK.out
     go_upto_region 12 with (go_at_call 100; refine (dom_one.calls k e6 e7 A8 c8 l8 e9 e10 A11 c11 l11 _ _ (Kd.C_below HC8.out HB.out) HL8.out (Kd.C_below HC11.out HB.out) HL11.out HO.out).mono ?_; rintro e w7 ⟨rfl, hbl⟩; have HI7 := aS (IsEd.below HI.out hbl); have HB7 := aS (q01 HB.out hbl); have XK7 := aS (q02 XK.out hbl); clear HI HB hbl XK hx0 hx1 hx2 hx3 hx4 hx5; have HI := HI7; have HB := HB7; have XK := XK7; clear HI7 HB7 XK7; obtain ⟨hx0, hx1, hx2, hx3, hx4, hx5, -, -, -, -, -, -⟩ := bk6 XK.out; obtain ⟨hz0, hz1, hz2, hzf0, hzf1, hzf2⟩ := bk3 HI.out.1)
     have HIm := aS (IsEd.made HI.out (ns.length : Int))
     have HBm := aS (q08 (j := 2) (v := .int .i64 (ns.length : Int)) HB.out HI.out.2.1)
     have XKm := aS ((Below.heap_setCell _ ⟨g, 2, none⟩ (.int .i64 (ns.length : Int)) gx (fun e_ => HN3.out e_.symm)).trans XK.out)
     generalize w7.setCell ⟨g, 2, none⟩ (.int .i64 (ns.length : Int)) = wm at HIm HBm XKm ⊢
     clear HI HB XK hx0 hx1 hx2 hx3 hx4 hx5 hz0 hz1 hz2 hzf0 hzf1 hzf2
     obtain ⟨hx0, hx1, hx2, hx3, hx4, hx5, -, -, -, -, -, -⟩ := bk6 XKm.out
     obtain ⟨hz0, hz1, hz2, hzf0, hzf1, hzf2⟩ := bk3 HIm.out.1
     refine start_ (n := 22) (S := fun w' => w'.cell? ⟨g, 0, none⟩ = some (.slice (some ⟨b, 0, none⟩) ns.length c) ∧ w'.cell? ⟨gx, 0, none⟩ = some (.int .i64 e6) ∧ w'.cell? ⟨gx, 1, none⟩ = some (.string e7) ∧ w'.cell? ⟨gx, 2, none⟩ = some (.slice A8 l8.length c8) ∧ w'.cell? ⟨gx, 3, none⟩ = some (.string e9)) (ds := [17, 21]) #[false, false, false, false, false, false, false, false, false, false, false, false, false, false, false, false, false, false, false, false, false, false] (by kernel_rfl) rfl rfl ⟨hz0, hx0, hx1, hx2, hx3⟩ (fun hHeld => ?_)
     refine q0n (i := 0) (N := some 39) (v := ?_) (a' := ?_) #[true, false, false, false, false, false, false, false, false, false, false, false, false, false, false, false, false, false, false, false, false, false] rfl rfl (by kernel_rfl) (fun _ _ _ h => h) (Or.inl ⟨by rfl, ?_⟩) ?_ ?_
     rotate_left
     ·intro w'
      go_simp
      with_reducible rfl
     rotate_left
     ·simp only [Act.put, s1, s2, s3, q0d, q0e]
      rfl
     refine q0n (i := 1) (N := some 40) (v := ?_) (a' := ?_) #[true, true, false, false, false, false, false, false, false, false, false, false, false, false, false, false, false, false, false, false, false, false] rfl rfl (by kernel_rfl) (fun _ _ _ h => h) (Or.inl ⟨by rfl, ?_⟩) ?_ ?_
     rotate_left
     ·intro w'
      go_simp
      with_reducible rfl
     rotate_left
     ·simp only [Act.put, s1, s2, s3, q0d, q0e]
      rfl
     refine q0n (i := 2) (N := some 41) (v := ?_) (a' := ?_) #[true, true, true, false, false, false, false, false, false, false, false, false, false, false, false, false, false, false, false, false, false, false] rfl rfl (by kernel_rfl) (fun _ _ _ h => h) (Or.inl ⟨by rfl, ?_⟩) ?_ ?_
     rotate_left
     ·intro w'
      go_simp
      with_reducible rfl
     rotate_left
     ·simp only [Act.put, s1, s2, s3, q0d, q0e]
      rfl
     refine q0n (i := 3) (N := some 42) (v := ?_) (a' := ?_) #[true, true, true, true, false, false, false, false, false, false, false, false, false, false, false, false, false, false, false, false, false, false] rfl rfl (by kernel_rfl) (fun _ _ _ h => h) (Or.inl ⟨by rfl, ?_⟩) ?_ ?_
     rotate_left
     ·intro w'
      go_simp
      with_reducible rfl
     rotate_left
     ·simp only [Act.put, s1, s2, s3, q0d, q0e]
      rfl
     refine q0n (i := 4) (N := some 43) (v := ?_) (a' := ?_) #[true, true, true, true, true, false, false, false, false, false, false, false, false, false, false, false, false, false, false, false, false, false] rfl rfl (by kernel_rfl) (fun _ _ _ h => h) (Or.inl ⟨by rfl, ?_⟩) ?_ ?_
     rotate_left
     ·intro w'
      go_simp
      with_reducible rfl
     rotate_left
     ·simp only [Act.put, s1, s2, s3, q0d, q0e]
      rfl
     refine q0n (i := 6) (N := some 45) (v := ?_) (a' := ?_) #[true, true, true, true, true, false, true, false, false, false, false, false, false, false, false, false, false, false, false, false, false, false] rfl rfl (by kernel_rfl) (fun _ _ _ h => h) (Or.inl ⟨by rfl, ?_⟩) ?_ ?_
     rotate_left
     ·intro w'
      go_simp
      with_reducible rfl
     rotate_left
     ·simp only [Act.put, s1, s2, s3, q0d, q0e]
      rfl
     refine q0n (i := 8) (N := some 47) (v := ?_) (a' := ?_) #[true, true, true, true, true, false, true, false, true, false, false, false, false, false, false, false, false, false, false, false, false, false] rfl rfl (by kernel_rfl) (fun _ _ _ h => h) (Or.inl ⟨by rfl, ?_⟩) ?_ ?_
     rotate_left
     ·intro w'
      go_simp
      with_reducible rfl
     rotate_left
     ·simp only [Act.put, s1, s2, s3, q0d, q0e]
      rfl
     refine q0n (i := 10) (N := some 49) (v := ?_) (a' := ?_) #[true, true, true, true, true, false, true, false, true, false, true, false, false, false, false, false, false, false, false, false, false, false] rfl rfl (by kernel_rfl) (fun _ _ _ h => h) (Or.inl ⟨by rfl, ?_⟩) ?_ ?_
     rotate_left
     ·intro w'
      go_simp
      with_reducible rfl
     rotate_left
     ·simp only [Act.put, s1, s2, s3, q0d, q0e]
      rfl
     refine q0n (i := 13) (N := some 52) (v := ?_) (a' := ?_) #[true, true, true, true, true, false, true, false, true, false, true, false, false, true, false, false, false, false, false, false, false, false] rfl rfl (by kernel_rfl) (fun _ _ _ h => h) (Or.inl ⟨by rfl, ?_⟩) ?_ ?_
     rotate_left
     ·intro w'
      go_simp
      with_reducible rfl
     rotate_left
     ·simp only [Act.put, s1, s2, s3, q0d, q0e]
      rfl
     refine take_ (i := 5) (N := some 44) (v := ?_) (a' := ?_) #[true, true, true, true, true, true, true, false, true, false, true, false, false, true, false, false, false, false, false, false, false, false] rfl rfl (by kernel_rfl) (fun _ _ _ h => h) (Or.inl ⟨by rfl, ?_⟩) hHeld ?_ ?_
     rotate_left
     ·rintro w' ⟨s0, s1, s2, s3, s4⟩
      go_simp
      with_reducible rfl
     rotate_left
     ·simp only [Act.put, s1, s2, s3, q0d, q0e]
      rfl
     refine take_ (i := 7) (N := some 46) (v := ?_) (a' := ?_) #[true, true, true, true, true, true, true, true, true, false, true, false, false, true, false, false, false, false, false, false, false, false] rfl rfl (by kernel_rfl) (fun _ _ _ h => h) (Or.inl ⟨by rfl, ?_⟩) hHeld ?_ ?_
     rotate_left
     ·rintro w' ⟨s0, s1, s2, s3, s4⟩
      go_simp
      with_reducible rfl
     rotate_left
     ·simp only [Act.put, s1, s2, s3, q0d, q0e]
      rfl
     refine take_ (i := 9) (N := some 48) (v := ?_) (a' := ?_) #[true, true, true, true, true, true, true, true, true, true, true, false, false, true, false, false, false, false, false, false, false, false] rfl rfl (by kernel_rfl) (fun _ _ _ h => h) (Or.inl ⟨by rfl, ?_⟩) hHeld ?_ ?_
     rotate_left
     ·rintro w' ⟨s0, s1, s2, s3, s4⟩
      go_simp
      with_reducible rfl
     rotate_left
     ·simp only [Act.put, s1, s2, s3, q0d, q0e]
      rfl
     refine take_ (i := 11) (N := some 50) (v := ?_) (a' := ?_) #[true, true, true, true, true, true, true, true, true, true, true, true, false, true, false, false, false, false, false, false, false, false] rfl rfl (by kernel_rfl) (fun _ _ _ h => h) (Or.inl ⟨by rfl, ?_⟩) hHeld ?_ ?_
     rotate_left
     ·rintro w' ⟨s0, s1, s2, s3, s4⟩
      go_simp
      with_reducible rfl
     rotate_left
     ·simp only [Act.put, s1, s2, s3, q0d, q0e]
      rfl
     refine take_ (i := 14) (N := some 53) (v := ?_) (a' := ?_) #[true, true, true, true, true, true, true, true, true, true, true, true, false, true, true, false, false, false, false, false, false, false] rfl rfl (by kernel_rfl) (fun _ _ _ h => h) (Or.inl ⟨by rfl, ?_⟩) hHeld ?_ ?_
     rotate_left
     ·rintro w' ⟨s0, s1, s2, s3, s4⟩
      go_simp
      with_reducible rfl
     rotate_left
     ·simp only [Act.put, s1, s2, s3, q0d, q0e]
      rfl
     refine one_ (i := 12) (N := some 51) #[true, true, true, true, true, true, true, true, true, true, true, true, true, true, true, false, false, false, false, false, false, false] rfl rfl (by kernel_rfl) (by decide) (fun K hK => ?_)
     refine goes_ Tryd.func80 (by kernel_rfl) rfl #[.slice A8 l8.length c8] (by rfl) rfl rfl (by simp only [List.map_toArray, List.map_cons, List.map_nil]; rfl) ?_
     with_reducible refine (api_Attr_80.calls A8 c8 l8 l8 _ (Kd.C_below HC8.out (q0g HBm.out)) HL8.out HCL.out).mono ?_
     rintro e w7 ⟨v7, rfl, hr7, hbl⟩
     refine ⟨_, rfl, ?_⟩
     obtain ⟨A7, c7, e7_⟩ := Kd.R_slice hr7
     subst e7_
     have hbm := q01 (q0g (Below.refl wm.heap.size wm)) hbl
     have HR7 := aS hr7
     have HL7 := aS hbm
     have HI := aS (IsEd.below HIm.out hbm)
     have HB := aS (q01 HBm.out hbm)
     have XK := aS (q02 XKm.out hbm)
     clear hr7 hbl hbm hx0 hx1 hx2 hx3 hx4 hx5 hz0 hz1 hz2 hzf0 hzf1 hzf2
     obtain ⟨hx0, hx1, hx2, hx3, hx4, hx5, -, -, -, -, -, -⟩ := bk6 XK.out
     obtain ⟨hz0, hz1, hz2, hzf0, hzf1, hzf2⟩ := bk3 HI.out.1
     refine hK.out _ _ ⟨hz0, hx0, hx1, hx2, hx3⟩ (fun hHeld => ?_)
     clear hK K
     refine q1n (a' := ?_) ?_ ?_
     rotate_left
     ·show Act.put _ (some 51) _ = _
      simp only [Act.put, s1, s2, s3, q0d, q0e]
      rfl
     refine q0n (i := 15) (N := some 54) (v := ?_) (a' := ?_) #[true, true, true, true, true, true, true, true, true, true, true, true, true, true, true, true, false, false, false, false, false, false] rfl rfl (by kernel_rfl) (fun _ _ _ h => h) (Or.inl ⟨by rfl, ?_⟩) ?_ ?_
     rotate_left
     ·intro w'
      go_simp
      with_reducible rfl
     rotate_left
     ·simp only [Act.put, s1, s2, s3, q0d, q0e]
      rfl
     refine one_ (i := 16) (N := some 55) #[true, true, true, true, true, true, true, true, true, true, true, true, true, true, true, true, true, false, false, false, false, false] rfl rfl (by kernel_rfl) (by decide) (fun K hK => ?_)
     refine value_ (w1 := ?_) (v := ?_) (by rfl) rfl ?_ ?_
     rotate_left 2
     ·go_simp
      constructor
      ·rfl
      ·rfl
     refine hK.out _ _ ⟨Lib.cell?_alloc_some _ hz0, Lib.cell?_alloc_some _ hx0, Lib.cell?_alloc_some _ hx1, Lib.cell?_alloc_some _ hx2, Lib.cell?_alloc_some _ hx3⟩ (fun hHeld => ?_)
     clear hK K
     refine q1n (a' := ?_) ?_ ?_
     rotate_left
     ·show Act.put _ (some 55) _ = _
      simp only [Act.put, s1, s2, s3, q0d, q0e]
      rfl
     refine last_ (i := 17) (N := some 56) #[true, true, true, true, true, true, true, true, true, true, true, true, true, true, true, true, true, true, false, false, false, false] rfl rfl (by kernel_rfl) (by decide) (fun K hK => ?_)
     refine Kd.S_append_step k43 (w0 := w0) (W := w7) w0.heap.size (by rfl) (.tmp 44) (.tmp 55) 22 43 (.agg #[.int .i64 0, .string (⟨#[]⟩ : ByteArray), .slice none 0 0, .string (⟨#[]⟩ : ByteArray), .int .i64 0, .slice none 0 0]) 96 rfl Tryd.underlying22 info43 rfl (by decide) (by decide) (.slice (some ⟨b, 0, none⟩) ns.length c) ns (⟨e6, e7, l8, e9, -1, []⟩ : S43) [.int .i64 e6, .string e7, .slice A7 l8.length c7, .string e9, .int .i64 (-1), .slice none 0 0] (fun k => k ≠ g) (fun k => wm.heap.size ≤ k) rfl rfl ?aP ?aK ?aF ?aO HB.out HB.out.size ?aL ?_
     case aP => exact q28 _ _ _ (⟨e6, e7, l8, e9, -1, []⟩ : S43) (Kd.R_mono (Kd.R_lower (Kd.R_bound HR7.out) HBm.out.size) (fun k hk => hk.2.1)) (Kd.R_nil _ _ _ _ _)
     case aK => exact fun k hk => ⟨(fun e_ => by have h1_ := q0a HIm.out.1; have h2_ : wm.heap.size ≤ k := hk; omega), (fun e_ => by have h1_ := Kd.R_lt (Kd.S_R HIm.out.2.2) b (by simp [Value.ownBlock]); have h2_ : wm.heap.size ≤ k := hk; have h3_ : k = b := (by simpa [Value.ownBlock] using e_); omega)⟩
     case aF => exact fun k hk => (fun e_ => by have h1_ := q0a HI.out.1; omega)
     case aO => exact Kd.S_below (Kd.S_mono (Kd.S_bound HIm.out.2.2) (fun k hk => ⟨hk.1, Nat.not_le.2 hk.2.2.1⟩)) HL7.out
     case aL => (have := HL.out; omega)
     intro v8 w8 hs8 hbl8 hg8 hat8
     obtain ⟨b8, cap8, e8_, -, -, -⟩ := Kd.R_form (Kd.S_R hs8) (by simp)
     rw [show (ns ++ [(⟨e6, e7, l8, e9, -1, []⟩ : S43)]).length = ns.length + 1 from by rw [List.length_append]; rfl] at e8_
     subst e8_
     have hk8 := (hg8.block g (q0a HI.out.1) (fun e_ => (IsEd.ge HI.out).2 (by simpa [Value.ownBlock] using e_.symm))).trans HI.out.1
     have HS8 := aS hs8
     have HB8 := aS hbl8
     have HK8 := aS hk8
     clear hs8 hbl8 hg8 hat8 hk8 hx0 hx1 hx2 hx3 hx4 hx5 hz0 hz1 hz2 hzf0 hzf1 hzf2
     obtain ⟨hz0, hz1, hz2, hzf0, hzf1, hzf2⟩ := bk3 HK8.out
     refine hK.out _ _ ?_
     clear hK K
     refine q1n (a' := ?_) ?_ ?_
     rotate_left
     ·show Act.put _ (some 56) _ = _
      simp only [Act.put, s1, s2, s3, q0d, q0e]
      rfl
     refine q0n (i := 18) (N := some 57) (v := ?_) (a' := ?_) #[true, true, true, true, true, true, true, true, true, true, true, true, true, true, true, true, true, true, true, false, false, false] rfl rfl (by kernel_rfl) (fun _ _ _ h => h) (Or.inl ⟨by rfl, ?_⟩) ?_ ?_
     rotate_left
     ·intro w'
      go_simp
      with_reducible rfl
     rotate_left
     ·simp only [Act.put, s1, s2, s3, q0d, q0e]
      rfl
     refine q0n (i := 19) (N := some 58) (v := ?_) (a' := ?_) #[true, true, true, true, true, true, true, true, true, true, true, true, true, true, true, true, true, true, true, true, false, false] rfl rfl (by kernel_rfl) (fun _ _ _ h => h) (Or.inl ⟨by rfl, ?_⟩) ?_ ?_
     rotate_left
     ·intro w'
      go_simp
      with_reducible rfl
     rotate_left
     ·simp only [Act.put, s1, s2, s3, q0d, q0e]
      rfl
     refine q0n (i := 20) (N := some 59) (v := ?_) (a' := ?_) #[true, true, true, true, true, true, true, true, true, true, true, true, true, true, true, true, true, true, true, true, true, false] rfl rfl (by kernel_rfl) (fun _ _ _ h => h) (Or.inl ⟨by rfl, ?_⟩) ?_ ?_
     rotate_left
     ·intro w'
      go_simp
      with_reducible rfl
     rotate_left
     ·simp only [Act.put, s1, s2, s3, q0d, q0e]
      rfl
     refine last_ (i := 21) (N := none) #[true, true, true, true, true, true, true, true, true, true, true, true, true, true, true, true, true, true, true, true, true, true] rfl rfl (by kernel_rfl) (by decide) (fun K hK => ?_)
     refine skip_ (w1 := ?_) (by rfl) rfl ?_ ?_
     rotate_left
     ·go_simp
      rfl
     refine hK.out _ _ ?_
     clear hK K
     refine done_ (by kernel_rfl) ?_
     all_goals
      go_wp2
      go_ret
      exact ⟨rfl, ⟨_, _, IsEd.push HK8.out HIm.out.2.1 (by exact HS8.out)⟩, q08 HB8.out HIm.out.2.1⟩
theorem ed_row {w : World} {base g cap : Nat} {ok : Nat → Prop} {cur : Array Value} {l : List Int} (hg : base ≤ g) (hb : w.heap[g]? = some (.cells cur 3 (0, 0))) (hn : l.length ≤ cap) (hm : cap ≤ maxLen) (hs : cur.size = cap) (ht : cur.toList.take l.length = encs (Value.int .i64) l) (hok : ok g) :
 (Kd.int .i64).R 3 w base ok (.slice (some ⟨g, 0, none⟩) l.length cap) l :=
 Kd.R_of_own (enc := Value.int .i64) (h1 := fun _ => rfl) ⟨by rw [encs_length, Nat.mul_one], .inr ⟨g, cap, cur, rfl, hg, hb, hn, hm, by rw [hs, Nat.mul_one], by rw [Nat.mul_one]; exact ht⟩⟩ (fun k hk => by
  obtain rfl : g = k := by simpa [Value.ownBlock] using hk
  exact hok)
theorem ed_list1 {α : Type} (L0 cs R : List α) (x : α) (i : Nat) (hi : i ≤ cs.length) (h0 : L0.take i = cs.take i) (h1 : i + 1 ≤ L0.length) (m : Nat) (hm : m = cs.length + 1) :
 (((L0.take (i + 1) ++ cs.drop i ++ R).take i ++ [x] ++ (L0.take (i + 1) ++ cs.drop i ++ R).drop (i + 1))).take m = cs.take i ++ x :: cs.drop i := by
 have hl : (L0.take (i + 1)).length = i + 1 := by rw [List.length_take]; omega
 have e1 : (L0.take (i + 1) ++ cs.drop i ++ R).take i = cs.take i := by rw [List.append_assoc, List.take_append_of_le_length (by omega), List.take_take, Nat.min_eq_left (by omega), h0]
 have e2 : (L0.take (i + 1) ++ cs.drop i ++ R).drop (i + 1) = cs.drop i ++ R := by rw [List.append_assoc, List.drop_left' hl]
 rw [e1, e2]
 have e : cs.take i ++ [x] ++ (cs.drop i ++ R) = (cs.take i ++ x :: cs.drop i) ++ R := by simp
 rw [e, List.take_left' (by simp; omega)]
theorem ed_list2 {α : Type} (L0 cs R : List α) (x : α) (i : Nat) (hi : i ≤ cs.length) (h0 : L0.take i = cs.take i) (m : Nat) (hm : m = cs.length + 1) (S : List α) :
 (((L0.take i ++ [x] ++ S).take (i + 1) ++ cs.drop i ++ R)).take m = cs.take i ++ x :: cs.drop i := by
 have hl : (cs.take i ++ [x]).length = i + 1 := by simp; omega
 rw [h0, List.take_left' hl]
 have e : cs.take i ++ [x] ++ cs.drop i ++ R = (cs.take i ++ x :: cs.drop i) ++ R := by simp
 rw [e, List.take_left' (by simp; omega)]
set_option maxHeartbeats 2000000 in
theorem ed_ins {ok : Nat → Prop} {base : Nat} {A : Option Addr} {c : Nat} {l : List Int} {i : Nat} {x : Int} {vb : Nat} {w : World} (hR : (Kd.int .i64).R 3 w base ok (.slice A l.length c) l) (hbs : base ≤ w.heap.size) (hi : i ≤ l.length) (hl : l.length ≤ 1000000)
 (hv : w.heap[vb]? = some (.cells #[.int .i64 x] 3 (0, 0))) (hne : ∀ a, A = some a → vb ≠ a.block) :
 Calls Tryd.prog 153 #[.slice A l.length c, .int .i64 (i : Int), .slice (some ⟨vb, 0, none⟩) 1 1] w fun e w' => ∃ v', e = .returned v' ∧ (Kd.int .i64).R 3 w' base (fun k => ok k ∨ w.heap.size ≤ k) v' (l.take i ++ x :: l.drop i) ∧ w.grownBy w' (Value.slice A l.length c).ownBlock := by
 have ho := Kd.own_of_R (enc := Value.int .i64) (h1 := fun _ => rfl) hR
 have hok := hR.1
 have hcl : (encs (Value.int .i64) l).length = l.length := encs_length _
 have hvs : ∀ j v, [Value.int .i64 x][j]? = some v → w.cell? ⟨vb, 0 + j, none⟩ = some v := fun j v h => by
  cases j with
  | zero => simp only [List.getElem?_cons_zero] at h; rw [← h]; exact (q09 hv 0).trans rfl
  | succ j => simp at h
 have h1v : ∀ v ∈ [Value.int .i64 x], v.oneCell' = true := fun v h => by rw [List.mem_singleton.1 h]; rfl
 have h1c : ∀ v ∈ encs (Value.int .i64) l, v.oneCell' = true := fun v h => by
  obtain ⟨y, _, rfl⟩ := List.mem_map.1 h
  rfl
 have hnl : (l.take i ++ x :: l.drop i).length = l.length + 1 := by simp; omega
 have henc : encs (Value.int .i64) (l.take i ++ x :: l.drop i) = (encs (Value.int .i64) l).take i ++ Value.int .i64 x :: (encs (Value.int .i64) l).drop i := by simp [encs, List.map_take, List.map_drop]
 have hml : l.length + 1 ≤ maxLen := by unfold maxLen; omega
 have htl : (encs (Value.int .i64) l).take l.length = encs (Value.int .i64) l := List.take_of_length_le (by omega)
 have hdl : (encs (Value.int .i64) l).drop l.length = [] := List.drop_eq_nil_of_le (by omega)
 -- a new row, at the end of the old one
 have hend : i = l.length → c < l.length + 1 → l.length ≤ c → (A = none → l.length = 0) → (∀ a, A = some a → ∀ j v, (encs (Value.int .i64) l)[j]? = some v → w.cell? (a.add j) = some v) → Calls Tryd.prog 153 #[.slice A l.length c, .int .i64 (i : Int), .slice (some ⟨vb, 0, none⟩) 1 1] w fun e w' => ∃ v', e = .returned v' ∧ (Kd.int .i64).R 3 w' base (fun k => ok k ∨ w.heap.size ≤ k) v' (l.take i ++ x :: l.drop i) ∧ w.grownBy w' (Value.slice A l.length c).ownBlock := by
  intro e1 hc hnc hnil hcs
  have hh := Any2.slices_Insert_int_end_grow Tryd.laysIns A l.length c vb 0 1 1 (encs (Value.int .i64) l) [.int .i64 x] w (by decide) hnc hc (by omega) hcl rfl hnil hcs hvs h1v
  rw [e1]
  refine hh.mono ?_
  rintro e w' ⟨rfl, rfl⟩
  have hge := grownCap_ge w (l.length + 1) c 3
  obtain ⟨G, hG⟩ : ∃ G, grownCap w (l.length + 1) c 3 = G := ⟨_, rfl⟩
  have hGm : G ≤ maxLen := by rw [← hG]; exact grownCap_le_maxLen _ _ _ _ hml
  rw [hG] at hge
  rw [show grownCap w (l.length + 1) c (Tryd.laysIns_ren.t 3) = G from hG]
  obtain ⟨X, hX⟩ : ∃ X, (encs (Value.int .i64) l ++ [Value.int .i64 x]).toArray ++ Builtin.zeroCells (Value.int .i64 0).cells (G - (l.length + 1)) = X := ⟨_, rfl⟩
  rw [hX]
  have hXs : X.size = G := by rw [← hX]; simp [size_zeroCells, hcl]; rw [show (Value.int IntKind.i64 0).cells.size = 1 from rfl]; omega
  refine ⟨_, rfl, ?_, ?_⟩
  ·have hb : (w.drew.alloc (.cells X 3)).heap[w.heap.size]? = some (.cells X 3 (0, 0)) := heap_alloc_new w.drew _
   have hq := ed_row (l := l.take i ++ x :: l.drop i) (cap := G) (ok := fun k => ok k ∨ w.heap.size ≤ k) hbs hb (by omega) hGm hXs (by
    rw [hnl, henc, e1, htl, hdl, ← hX]
    simp only [Array.toList_append, List.toList_toArray]
    exact List.take_left' (by simp [hcl])) (.inr (Nat.le_refl _))
   rw [hnl, e1] at hq
   exact hq
  ·exact q1x (q0i (q0g (Below.refl _ _)) _) _
 rcases ho.2 with ⟨hnone, hn0⟩ | ⟨g, cap, cur, he, hg, hb, hncap, hcm, hcs, htk⟩
 ·injection hnone with hA hl0 hc0
  subst hA
  exact hend (by omega) (by omega) (by omega) (fun _ => hn0) (fun a ha => by cases ha)
 ·obtain rfl : A = some ⟨g, 0, none⟩ := (by injection he)
  obtain rfl : c = cap := (by injection he)
  clear he
  rw [Nat.mul_one] at hcs htk
  have hgv : vb ≠ g := hne _ rfl
  have hoc : ok g := hok g (by simp [Value.ownBlock])
  have hcell : ∀ j v, (encs (Value.int .i64) l)[j]? = some v → w.cell? ⟨g, 0 + j, none⟩ = some v := fun j v h => by
   rw [← htk, List.getElem?_take] at h
   split at h
   ·rw [Nat.zero_add, q09 hb j]; simpa using h
   ·cases h
  by_cases c1 : i = l.length
  ·by_cases c2 : c < l.length + 1
   ·exact hend c1 c2 hncap (fun h => by cases h) (fun a ha j v h => by cases ha; rw [add_plain]; have := hcell j v h; rwa [Nat.zero_add] at this)
   ·have hh := Any2.slices_Insert_int_end_room Tryd.laysIns g 0 l.length c vb 0 1 1 [.int .i64 x] w (by decide) (by omega) (by unfold maxLen at hcm; omega) rfl
     (fun j hj => by rw [q09 hb]; simp; omega) (fun j hj => q0f hb _) hvs h1v
    rw [c1]
    refine hh.mono ?_
    rintro e w' ⟨rfl, rfl⟩
    obtain ⟨cur', h3, h4, h5⟩ := q1h [Value.int .i64 x] (0 + l.length) w cur hb (by simp; omega)
    refine ⟨_, rfl, ?_, ?_⟩
    ·rw [c1] at hnl henc
     have hq := ed_row (l := l.take l.length ++ x :: l.drop l.length) (cap := c) (ok := fun k => ok k ∨ w.heap.size ≤ k) hg h3 (by omega) hcm (by omega) (by
      rw [hnl, henc, h5, htl, hdl, Nat.zero_add, htk]
      exact List.take_left' (by simp [hcl])) (.inl hoc)
     rw [hnl] at hq
     exact hq
    ·have h9 := Cl.grown_setCells w g (0 + l.length) [Value.int .i64 x]
     exact h9
  ·have hil : i < l.length := by omega
   by_cases c2 : c < l.length + 1
   ·have hh := Any2.slices_Insert_int_grow Tryd.laysIns g 0 l.length c i vb 0 1 1 (encs (Value.int .i64) l) [.int .i64 x] w hil (by decide) hncap c2 (by omega) hcl rfl hcell hvs h1c h1v
    refine hh.mono ?_
    rintro e w' ⟨rfl, rfl⟩
    have hge := grownCap_ge w (l.length + 1) c 3
    obtain ⟨G, hG⟩ : ∃ G, grownCap w (l.length + 1) c 3 = G := ⟨_, rfl⟩
    have hGm : G ≤ maxLen := by rw [← hG]; exact grownCap_le_maxLen _ _ _ _ hml
    obtain ⟨cur0, hcur0⟩ : ∃ cur0, ((encs (Value.int .i64) l).take i).toArray ++ Builtin.zeroCells (Value.int .i64 0).cells (l.length + 1 - i) ++ Builtin.zeroCells (Value.int .i64 0).cells (G - (l.length + 1)) = cur0 := ⟨_, rfl⟩
    show ∃ v', _
    rw [show grownCap w (l.length + 1) c (Tryd.laysIns_ren.t 3) = G from hG]
    rw [hcur0]
    have hsz : cur0.size = G := by rw [← hcur0]; simp only [Array.size_append, List.size_toArray, List.length_take, size_zeroCells, hcl]; rw [show (Value.int IntKind.i64 0).cells.size = 1 from rfl]; rw [hG] at hge; omega
    have hb0 : ((w.alloc (.cells cur0 3)).drew).heap[w.heap.size]? = some (.cells cur0 3 (0, 0)) := heap_alloc_new w _
    rw [hG] at hge
    obtain ⟨cur1, h3, h4, h5⟩ := q1h [Value.int .i64 x] i _ cur0 hb0 (by simp; omega)
    obtain ⟨cur2, h6, h7, h8⟩ := q1h ((encs (Value.int .i64) l).drop i) (i + 1) ((((w.alloc (.cells cur0 3)).drew).setCells w.heap.size i [Value.int .i64 x]).drew) cur1 h3 (by simp [hcl]; omega)
    refine ⟨_, rfl, ?_, ?_⟩
    ·rw [← hnl] at hge ⊢
     refine ed_row hbs h6 hge hGm (by omega) ?_ (.inr (Nat.le_refl _))
     rw [hnl, henc, h8, h5]
     have hc0 : cur0.toList.take i = (encs (Value.int .i64) l).take i := by
      rw [← hcur0]
      simp only [Array.toList_append, List.toList_toArray, List.append_assoc]
      exact List.take_left' (by simp [hcl]; omega)
     exact ed_list2 cur0.toList (encs (Value.int .i64) l) _ (Value.int .i64 x) i (by omega) hc0 _ (by omega) _
    ·refine ⟨?_, ?_, ?_, ?_, ?_⟩
     ·exact (q0v _ _ _ _).1.trans ((q0v _ _ _ _).1.trans rfl)
     ·exact (q0v _ _ _ _).2.1.trans ((q0v _ _ _ _).2.1.trans rfl)
     ·exact (q0v _ _ _ _).2.2.1.trans ((q0v _ _ _ _).2.2.1.trans rfl)
     ·rw [(q0v _ _ _ _).2.2.2]
      show w.heap.size ≤ (((w.alloc (.cells cur0 3)).drew).setCells w.heap.size i [Value.int .i64 x]).heap.size
      rw [(q0v _ _ _ _).2.2.2]
      simp
     ·intro k hk _
      rw [q1l _ _ k (by omega)]
      show (((w.alloc (.cells cur0 3)).drew).setCells w.heap.size i [Value.int .i64 x]).heap[k]? = _
      rw [q1l _ _ k (by omega)]
      exact Below.heap_alloc w _ k hk
   ·have hh := Any2.slices_Insert_int_shift Tryd.laysIns g 0 l.length c i vb 0 1 1 (encs (Value.int .i64) l) [.int .i64 x] w hil (by decide) (by omega) (by unfold maxLen at hcm; omega) hgv hcl rfl hcell
     (fun j hj => by rw [q09 hb]; simp; omega) (fun j hj => q0f hb _) hvs h1c h1v 3 3 1 cur.size (by unfold World.shape?; rw [hv]; rfl) (by unfold World.shape?; rw [hb]) (by omega) (q0f hv _) (q0f hv _)
    refine hh.mono ?_
    rintro e w' ⟨rfl, rfl⟩
    obtain ⟨cur1, h3, h4, h5⟩ := q1h ((encs (Value.int .i64) l).drop i) (0 + (i + 1)) w.drew cur hb (by simp [hcl]; omega)
    obtain ⟨cur2, h6, h7, h8⟩ := q1h [Value.int .i64 x] (0 + i) _ cur1 h3 (by simp; omega)
    refine ⟨_, rfl, ?_, ?_⟩
    ·rw [← hnl]
     refine ed_row hg h6 (by omega) hcm (by omega) ?_ (.inl hoc)
     rw [hnl, henc, h8, h5]
     simp only [Nat.zero_add, List.length_cons, List.length_nil]
     refine ed_list1 cur.toList (encs (Value.int .i64) l) _ (Value.int .i64 x) i (by omega) ?_ (by simp; omega) _ (by omega)
     rw [← htk, List.take_take, Nat.min_eq_left (by omega)]
    ·exact Cl.grown_step (Cl.grown_step (q1x (q0g (Below.refl _ _)) (some g)) (Cl.grown_setCells w.drew g (0 + (i + 1)) _)) (Cl.grown_setCells _ g (0 + i) _)
def edBelow (ns : List S43) (top : Int) : Nat → Int → Option Bool
 | 0, _ => none
 | k + 1, n => if n ≥ 0 then (if n = top then some true else if n < (ns.length : Int) then edBelow ns top k (q00 ns n).f4 else none) else some (n == top)
set_option maxHeartbeats 4000000 in
set_option maxRecDepth 100000 in
theorem ed_below {w0 W : World} {g b c : Nat} {ns : List S43} {q : Bool} {m : Int} (k : Nat) (hI : IsEd w0 W g b c ns q m) (n top : Int) (r : Bool) (h : edBelow ns top k n = some r) :
 Calls Tryd.prog 181 #[.pointer (some ⟨g, 0, none⟩), .int .i64 n, .int .i64 top] W fun e w' => e = .returned (.bool r) ∧ W = w' := by
 have hu147 := Tryd.underlying147
 have hu43 := Tryd.underlying43
 obtain ⟨hz0, hz1, hz2, -, -, -⟩ := bk3 hI.1
 have HI := aS hI
 have H' := aS h
 clear hI h
 go_enter Tryd.func181, Tryd.ntmps181
 go_wp2
 go_loopg [1] k (fun kq v1 w' => ∃ (x : Int), v1 = .int .i64 x ∧ Aside0 (edBelow ns top kq x = some r) ∧ Aside0 (kq ≤ k) ∧ W = w')
 case atStart => exact ⟨n, rfl, H', ⟨Nat.le_refl _⟩, rfl⟩
 case round =>
  clear H'
  obtain ⟨x, rfl, HA, HK1, rfl⟩ := hrel
  cases gk with
  | zero => exact absurd HA.out (by simp [edBelow])
  | succ k1 =>
   have H := HA.out
   clear HA
   simp only [edBelow] at H
   refine iL H ?p1 ?n1 <;> clear H
   case p1 =>
    intro c1 H
    refine iE H ?p2 ?n2 <;> clear H
    case p2 =>
     intro c2 c3 H
     obtain rfl := Option.some.inj H
     go_wp2
     go_ret
     exact ⟨by first | rfl | simp [*], rfl⟩
    case n2 =>
     intro c0 c2 c3 H
     refine iTp H ?_
     clear H
     intro c4 H
     have H' := aS H
     clear H c0
     have h0 := of_decide_eq_true c1
     have h1 := of_decide_eq_true c4
     obtain ⟨A2, c2', A5, c5, x0, x1, x2, x3, x4, x5, -, -, -, -, -⟩ := IsEd.elem HI.out x h0 h1
     replace h0 := eq_true h0
     replace h1 := eq_true h1
     clear x0 x1 x2 x3 x5
     go_wp2
     go_roundg k1
     case measure => have := HK1.out; omega
     case rel => exact ⟨(q00 ns x).f4, rfl, H', ⟨by have := HK1.out; omega⟩, rfl⟩
   case n1 =>
    intro c1 H
    obtain rfl := Option.some.inj H
    go_wp2
    go_ret
    exact ⟨by first | rfl | simp [*], rfl⟩
mutual
def edDeep (ns : List S43) : Nat → Int → Option Int
 | 0, _ => none
 | k + 1, n => if 0 ≤ n then (if n < (ns.length : Int) then edDeepL ns k (q00 ns n).f5 0 0 else none) else none
def edDeepL (ns : List S43) : Nat → List Int → Int → Int → Option Int
 | 0, _, _, _ => none
 | k + 1, l, i, mo => if i < (l.length : Int) then (if 0 ≤ i then (edDeep ns k (rd l i)).bind fun t => (if mo < wrap64 (t + 1) then edDeepL ns k l (wrap64 (i + 1)) (wrap64 (t + 1)) else edDeepL ns k l (wrap64 (i + 1)) mo) else none) else some mo
end
set_option maxHeartbeats 4000000 in
set_option maxRecDepth 100000 in
theorem ed_deep {w0 W : World} {g b c : Nat} {ns : List S43} {q : Bool} {m : Int} (hI : IsEd w0 W g b c ns q m) : ∀ (K k : Nat), k ≤ K → ∀ (n r : Int), edDeep ns k n = some r →
 Calls Tryd.prog 182 #[.pointer (some ⟨g, 0, none⟩), .int .i64 n] W fun e w' => e = .returned (.int .i64 r) ∧ W = w' := by
 intro K
 induction K with
 | zero =>
  intro k hk n r h
  obtain rfl : k = 0 := by omega
  simp [edDeep] at h
 | succ K ih =>
  intro k hk n r h
  cases k with
  | zero => simp [edDeep] at h
  | succ k =>
   have hu147 := Tryd.underlying147
   have hu43 := Tryd.underlying43
   obtain ⟨hz0, hz1, hz2, -, -, -⟩ := bk3 hI.1
   have HI := aS hI
   have IH := aS ih
   have HKK := aS hk
   simp only [edDeep] at h
   refine iLp h ?_
   clear h hI ih hk
   intro c1 h
   refine iTp h ?_
   clear h
   intro c2 h
   have H' := aS h
   clear h
   have h0 := of_decide_eq_true c1
   have h1 := of_decide_eq_true c2
   obtain ⟨A2, c2', A5, c5, x0, x1, x2, x3, x4, x5, -, -, HC5, HR5, -⟩ := IsEd.elem HI.out n h0 h1
   replace h0 := eq_true h0
   replace h1 := eq_true h1
   clear x0 x1 x2 x3 x4
   go_enter Tryd.func182, Tryd.ntmps182
   go_wp2
   go_loopg [4, 17] k (fun kq v4 v17 w' => ∃ (mo i : Int), v4 = .int .i64 mo ∧ v17 = .int .i64 i ∧ Aside0 (edDeepL ns kq (q00 ns n).f5 i mo = some r) ∧ Aside0 (kq ≤ k) ∧ W = w')
   case atStart => exact ⟨0, 0, rfl, rfl, H', ⟨Nat.le_refl _⟩, rfl⟩
   case round =>
    clear H'
    obtain ⟨mo, i, rfl, rfl, HA, HK1, rfl⟩ := hrel
    cases gk with
    | zero => exact absurd HA.out (by simp [edDeepL])
    | succ k1 =>
     have H := HA.out
     clear HA
     simp only [edDeepL] at H
     refine iT H ?p1 ?n1 <;> clear H
     case p1 =>
      intro c3 H
      refine iLp H ?_
      clear H
      intro c4 H
      replace H := iB H
      obtain ⟨t, HT, H⟩ := H
      obtain ⟨ad, e5, hx, p5, q5⟩ := atIA HR5.out i c4 c3
      cases e5
      refine iT H ?p2 ?n2 <;> clear H
      case p2|n2 =>
       intro c5 H
       have H' := aS H
       clear H
       first | have c6 := eq_true (of_decide_eq_true c5) | have c6 := eq_false (of_decide_eq_false c5)
       clear c5
       go_wp2_with (go_at_call 182; refine (IH.out k1 (by have := HK1.out; have := HKK.out; omega) _ _ HT.out).mono ?_; rintro e w' ⟨rfl, rfl⟩)
       go_roundg k1
       case measure => have := HK1.out; omega
       case rel => exact ⟨_, _, rfl, rfl, H', ⟨by have := HK1.out; omega⟩, rfl⟩
     case n1 =>
      intro c3 H
      obtain rfl := Option.some.inj H
      go_wp2
      go_ret
      exact ⟨rfl, rfl⟩
end Go.Proofs.YthjnallbbhnndaaDoor.XDe
namespace Go.Proofs.YthjnallbbhnndaaDoor.XDe
open Go.Proofs.YthjnallbbhnndaaDoor.Short Go.RowKit Go.Proofs.YthjnallbbhnndaaDoorW.PrintWords Go.Proofs.YthjnallbbhnndaaDoorW.PrintLast Go.Proofs.YthjnallbbhnndaaDoorW.PrintMore
attribute [local go_sem] q16 q14 q1g q1f q0s q0r q15 q13   -- for this text's walks alone
set_option linter.unusedVariables false
set_option linter.unusedSimpArgs false
def edKind (pb : Bool) (x y : S43) : Bool := !pb || decide (y.f0 = 1) || (decide (x.f0 = 1) && decide (y.f0 = 3))
def edInsert (k : Nat) (ns : List S43) (q : Bool) (n tt bf : Int) : Option (List S43 × Int) :=
 if 0 ≤ n ∧ n < (ns.length : Int) then (if 0 ≤ tt ∧ tt < (ns.length : Int) then
  ((dom_parent.f (q00 ns n).f0).bind fun pb => if edKind pb (q00 ns n) (q00 ns tt) = true then some (ns, 7) else if (q00 ns tt).f4 ≥ 0 then some (ns, 9) else
   ((if bf = -1 then some ((q00 ns n).f5.length : Int) else slices_Index_int_int.f k (q00 ns n).f5 bf).bind fun i => if i < 0 then some (ns, 5) else
    ((edBelow ns tt k n).bind fun bl => if bl = true then some (ns, 8) else
     ((dom_up.f k ns q n).bind fun u => (edDeep ns k tt).bind fun d => if wrap64 (wrap64 (u + 1) + d) > 40 then some (ns, 2) else if i ≤ ((q00 ns n).f5.length : Int) ∧ (q00 ns n).f5.length ≤ 1000000 then
      some ((ns.set n.toNat { q00 ns n with f5 := (q00 ns n).f5.take i.toNat ++ tt :: (q00 ns n).f5.drop i.toNat }).set tt.toNat { q00 (ns.set n.toNat { q00 ns n with f5 := (q00 ns n).f5.take i.toNat ++ tt :: (q00 ns n).f5.drop i.toNat }) tt with f4 := n }, 0) else none))))
  else some (ns, 5)) else some (ns, 5)
set_option maxHeartbeats 16000000 in
set_option maxRecDepth 100000 in
theorem ed_insert {w0 W : World} {g b c : Nat} {ns ns' : List S43} {q : Bool} {m r : Int} (k : Nat) (hI : IsEd w0 W g b c ns q m) (hB : Below w0.heap.size w0 W) (e0 e1 e2 e3 : Int) (e4 e5 : ByteArray) (e6 : Int) (e7 : ByteArray) (A8 : Option Addr) (c8 : Nat) (l8 : List S122) (e9 : ByteArray) (e10 : Int) (A11 : Option Addr) (c11 : Nat) (l11 : List Int) (h : edInsert k ns q e1 e2 e3 = some (ns', r)) :
 Calls Tryd.prog 165 #[.pointer (some ⟨g, 0, none⟩), .agg #[.int .i64 e0, .int .i64 e1, .int .i64 e2, .int .i64 e3, .string e4, .string e5, .int .i64 e6, .string e7, .slice A8 l8.length c8, .string e9, .int .i64 e10, .slice A11 l11.length c11]] W fun e w' => e = .returned (.int .i64 r) ∧ IsEd w0 w' g b c ns' q m ∧ Below w0.heap.size w0 w' := by
 have hu87 := Tryd.underlying87
 have hu43 := Tryd.underlying43
 have hu147 := Tryd.underlying147
 have hu24 := Tryd.underlying24
 have HI := aS hI
 have HB := aS hB
 clear hI hB
 unfold edInsert at h
 by_cases hr : 0 ≤ e1 ∧ e1 < (ns.length : Int)
 ·have h2 := (if_pos hr).symm.trans h
  clear h
  have h0 := aS hr.1
  have h1 := aS hr.2
  clear hr
  by_cases hr : 0 ≤ e2 ∧ e2 < (ns.length : Int)
  ·have h := (if_pos hr).symm.trans h2
   clear h2
   have t0 := aS hr.1
   have t1 := aS hr.2
   clear hr
   obtain ⟨x, hx⟩ : ∃ x, q00 ns e1 = x := ⟨_, rfl⟩
   obtain ⟨y, hy⟩ : ∃ y, q00 ns e2 = y := ⟨_, rfl⟩
   rw [hx, hy] at h
   have HX0 := aS hx
   have HY0 := aS hy
   clear hx hy
   replace h := iB h
   obtain ⟨pb, HP, h⟩ := h
   obtain ⟨kb, hkb⟩ : ∃ kb, edKind pb x y = kb := ⟨_, rfl⟩
   rw [hkb] at h
   have KB := hkb
   unfold edKind at KB
   clear hkb
   have k1 : (y.f0 == 1) = decide (y.f0 = 1) := rfl
   have k2 : (x.f0 == 1) = decide (x.f0 = 1) := rfl
   have k3 : (y.f0 == 3) = decide (y.f0 = 3) := rfl
   rw [← k1, ← k2, ← k3] at KB
   clear k1 k2 k3
   obtain ⟨by1, hby1⟩ : ∃ z, (y.f0 == 1) = z := ⟨_, rfl⟩
   obtain ⟨bx1, hbx1⟩ : ∃ z, (x.f0 == 1) = z := ⟨_, rfl⟩
   obtain ⟨by3, hby3⟩ : ∃ z, (y.f0 == 3) = z := ⟨_, rfl⟩
   rw [hby1, hbx1, hby3] at KB
   refine iV h ?p1 ?n1 <;> clear h
   case p1 =>
    intro c1 h
    subst c1
    simp only [Option.some.injEq, Prod.mk.injEq] at h
    obtain ⟨rfl, rfl⟩ := h
    cases pb <;> cases by1 <;> cases bx1 <;> cases by3 <;> first | exact absurd KB (by decide) | skip
    all_goals
     clear KB
     go_enter Tryd.func165, Tryd.ntmps165
     go_wp2_with (first | ((with_reducible refine q07 (N := 3) rfl ?_); refine box1 rfl (N := 3) rfl (cs := #[.int .i64 e0, .int .i64 e1, .int .i64 e2, .int .i64 e3, .string e4, .string e5, .int .i64 e6, .string e7, .slice A8 l8.length c8, .string e9, .int .i64 e10, .slice A11 l11.length c11]) (t := 87) zh ?_; intro gb wb BK GB HS; have HI1 := aS (IsEd.below HI.out HS.out); have HB1 := aS (q01 HB.out HS.out); have HN1 := aS (show g ≠ gb from fun e_ => by have := q0a HI.out.1; have := GB.out; omega); clear HI HB HS; have HI := HI1; have HB := HB1; clear HI1 HB1; obtain ⟨hb0, hb1, hb2, hb3, hb4, hb5, hb6, hb7, hb8, hb9, hb10, hb11⟩ := bk12 BK.out))
     go_quiet (first | (go_at_call 180; (with_reducible refine (q17 (w0 := w0) (g := g) (b := b) (c := c) (ns := ns) (q := q) (m := m) ?s1 e1 h0.out h1.out).mono ?_); (case s1 => repeat (first | (with_reducible exact HI.out) | (with_reducible refine IsEd.drewN ?_ _) | (with_reducible refine IsEd.drew ?_))); rintro e w' ⟨rfl, rfl⟩; (try first | exact ⟨rfl, _, rfl⟩ | exact ⟨rfl, _, World.drewN_drewN _ _ _⟩ | exact ⟨rfl, _, Eq.trans (World.drewN_drewN _ _ _) (congrArg (World.drewN _) (Nat.add_assoc _ _ _))⟩)) | (go_at_call 180; (with_reducible refine (q17 (w0 := w0) (g := g) (b := b) (c := c) (ns := ns) (q := q) (m := m) ?s1 e2 t0.out t1.out).mono ?_); (case s1 => repeat (first | (with_reducible exact HI.out) | (with_reducible refine IsEd.drewN ?_ _) | (with_reducible refine IsEd.drew ?_))); rintro e w' ⟨rfl, rfl⟩; (try first | exact ⟨rfl, _, rfl⟩ | exact ⟨rfl, _, World.drewN_drewN _ _ _⟩ | exact ⟨rfl, _, Eq.trans (World.drewN_drewN _ _ _) (congrArg (World.drewN _) (Nat.add_assoc _ _ _))⟩)))
     obtain ⟨A2x, c2x, A5x, c5x, x0, x1, x2, x3, x4, x5, -, -, HLx, HCx, hfx⟩ := IsEd.elem HI.out e1 h0.out h1.out
     obtain ⟨A2y, c2y, A5y, c5y, y0, y1, y2, y3, y4, y5, -, -, HLy, HCy, hfy⟩ := IsEd.elem HI.out e2 t0.out t1.out
     rw [HX0.out] at x0 x1 x2 x3 x4 x5 HLx HCx
     rw [HY0.out] at y0 y1 y2 y3 y4 y5 HLy HCy
     clear hfx hfy
     go_wp2_with (first | (go_at_call 158; (with_reducible refine (dom_parent.calls _ _ _ HP.out).mono ?_); rintro e w' ⟨rfl, ⟨nd, rfl⟩⟩))
     go_ret
     exact ⟨rfl, (by repeat (first | exact HI.out | refine IsEd.drewN ?_ _ | refine IsEd.drew ?_)), (z8 HB.out)⟩
   case n1 =>
    intro c1 h
    subst c1
    have q1 : pb = true := by
     cases pb
     ·simp at KB
     ·rfl
    have q2 : by1 = false := by
     cases by1
     ·rfl
     ·simp at KB
    subst q1 q2
    have q3 : bx1 = false ∨ (bx1 = true ∧ by3 = false) := by
     cases bx1
     ·exact .inl rfl
     ·cases by3
      ·exact .inr ⟨rfl, rfl⟩
      ·simp at KB
    clear KB
    refine iL h ?p2 ?n2 <;> clear h
    case p2 =>
     intro c2 h
     simp only [Option.some.injEq, Prod.mk.injEq] at h
     obtain ⟨rfl, rfl⟩ := h
     rcases q3 with rfl | ⟨rfl, rfl⟩
     all_goals
      go_enter Tryd.func165, Tryd.ntmps165
      go_wp2_with (first | ((with_reducible refine q07 (N := 3) rfl ?_); refine box1 rfl (N := 3) rfl (cs := #[.int .i64 e0, .int .i64 e1, .int .i64 e2, .int .i64 e3, .string e4, .string e5, .int .i64 e6, .string e7, .slice A8 l8.length c8, .string e9, .int .i64 e10, .slice A11 l11.length c11]) (t := 87) zh ?_; intro gb wb BK GB HS; have HI1 := aS (IsEd.below HI.out HS.out); have HB1 := aS (q01 HB.out HS.out); have HN1 := aS (show g ≠ gb from fun e_ => by have := q0a HI.out.1; have := GB.out; omega); clear HI HB HS; have HI := HI1; have HB := HB1; clear HI1 HB1; obtain ⟨hb0, hb1, hb2, hb3, hb4, hb5, hb6, hb7, hb8, hb9, hb10, hb11⟩ := bk12 BK.out))
      go_quiet (first | (go_at_call 180; (with_reducible refine (q17 (w0 := w0) (g := g) (b := b) (c := c) (ns := ns) (q := q) (m := m) ?s1 e1 h0.out h1.out).mono ?_); (case s1 => repeat (first | (with_reducible exact HI.out) | (with_reducible refine IsEd.drewN ?_ _) | (with_reducible refine IsEd.drew ?_))); rintro e w' ⟨rfl, rfl⟩; (try first | exact ⟨rfl, _, rfl⟩ | exact ⟨rfl, _, World.drewN_drewN _ _ _⟩ | exact ⟨rfl, _, Eq.trans (World.drewN_drewN _ _ _) (congrArg (World.drewN _) (Nat.add_assoc _ _ _))⟩)) | (go_at_call 180; (with_reducible refine (q17 (w0 := w0) (g := g) (b := b) (c := c) (ns := ns) (q := q) (m := m) ?s1 e2 t0.out t1.out).mono ?_); (case s1 => repeat (first | (with_reducible exact HI.out) | (with_reducible refine IsEd.drewN ?_ _) | (with_reducible refine IsEd.drew ?_))); rintro e w' ⟨rfl, rfl⟩; (try first | exact ⟨rfl, _, rfl⟩ | exact ⟨rfl, _, World.drewN_drewN _ _ _⟩ | exact ⟨rfl, _, Eq.trans (World.drewN_drewN _ _ _) (congrArg (World.drewN _) (Nat.add_assoc _ _ _))⟩)))
      obtain ⟨A2x, c2x, A5x, c5x, x0, x1, x2, x3, x4, x5, -, -, HLx, HCx, hfx⟩ := IsEd.elem HI.out e1 h0.out h1.out
      obtain ⟨A2y, c2y, A5y, c5y, y0, y1, y2, y3, y4, y5, -, -, HLy, HCy, hfy⟩ := IsEd.elem HI.out e2 t0.out t1.out
      rw [HX0.out] at x0 x1 x2 x3 x4 x5 HLx HCx
      rw [HY0.out] at y0 y1 y2 y3 y4 y5 HLy HCy
      clear hfx hfy
      go_wp2_with (first | (go_at_call 158; (with_reducible refine (dom_parent.calls _ _ _ HP.out).mono ?_); rintro e w' ⟨rfl, ⟨nd, rfl⟩⟩))
      go_ret
      exact ⟨rfl, (by repeat (first | exact HI.out | refine IsEd.drewN ?_ _ | refine IsEd.drew ?_)), (z8 HB.out)⟩
    case n2 =>
     intro c2 h
     replace h := iB h
     obtain ⟨i, HIX, h⟩ := h
     refine iT h ?p3 ?n3 <;> clear h
     case p3 =>
      intro c3 h
      simp only [Option.some.injEq, Prod.mk.injEq] at h
      obtain ⟨rfl, rfl⟩ := h
      by_cases cb : e3 = -1
      ·have h9 := HIX.out
       rw [if_pos cb] at h9
       have := of_decide_eq_true c3
       have := Option.some.inj h9
       omega
      ·have HX := aS ((if_neg cb).symm.trans HIX.out)
       have cb1 : (e3 == -1) = false := beq_eq_false_iff_ne.mpr cb
       have cb2 : (e3 != -1) = true := bne_iff_ne.mpr cb
       clear cb HIX
       rcases q3 with rfl | ⟨rfl, rfl⟩
       all_goals
        go_enter Tryd.func165, Tryd.ntmps165
        go_wp2_with (first | ((with_reducible refine q07 (N := 3) rfl ?_); refine box1 rfl (N := 3) rfl (cs := #[.int .i64 e0, .int .i64 e1, .int .i64 e2, .int .i64 e3, .string e4, .string e5, .int .i64 e6, .string e7, .slice A8 l8.length c8, .string e9, .int .i64 e10, .slice A11 l11.length c11]) (t := 87) zh ?_; intro gb wb BK GB HS; have HI1 := aS (IsEd.below HI.out HS.out); have HB1 := aS (q01 HB.out HS.out); have HN1 := aS (show g ≠ gb from fun e_ => by have := q0a HI.out.1; have := GB.out; omega); clear HI HB HS; have HI := HI1; have HB := HB1; clear HI1 HB1; obtain ⟨hb0, hb1, hb2, hb3, hb4, hb5, hb6, hb7, hb8, hb9, hb10, hb11⟩ := bk12 BK.out))
        go_quiet (first | (go_at_call 180; (with_reducible refine (q17 (w0 := w0) (g := g) (b := b) (c := c) (ns := ns) (q := q) (m := m) ?s1 e1 h0.out h1.out).mono ?_); (case s1 => repeat (first | (with_reducible exact HI.out) | (with_reducible refine IsEd.drewN ?_ _) | (with_reducible refine IsEd.drew ?_))); rintro e w' ⟨rfl, rfl⟩; (try first | exact ⟨rfl, _, rfl⟩ | exact ⟨rfl, _, World.drewN_drewN _ _ _⟩ | exact ⟨rfl, _, Eq.trans (World.drewN_drewN _ _ _) (congrArg (World.drewN _) (Nat.add_assoc _ _ _))⟩)) | (go_at_call 180; (with_reducible refine (q17 (w0 := w0) (g := g) (b := b) (c := c) (ns := ns) (q := q) (m := m) ?s1 e2 t0.out t1.out).mono ?_); (case s1 => repeat (first | (with_reducible exact HI.out) | (with_reducible refine IsEd.drewN ?_ _) | (with_reducible refine IsEd.drew ?_))); rintro e w' ⟨rfl, rfl⟩; (try first | exact ⟨rfl, _, rfl⟩ | exact ⟨rfl, _, World.drewN_drewN _ _ _⟩ | exact ⟨rfl, _, Eq.trans (World.drewN_drewN _ _ _) (congrArg (World.drewN _) (Nat.add_assoc _ _ _))⟩)))
        obtain ⟨A2x, c2x, A5x, c5x, x0, x1, x2, x3, x4, x5, -, -, HLx, HCx, hfx⟩ := IsEd.elem HI.out e1 h0.out h1.out
        obtain ⟨A2y, c2y, A5y, c5y, y0, y1, y2, y3, y4, y5, -, -, HLy, HCy, hfy⟩ := IsEd.elem HI.out e2 t0.out t1.out
        rw [HX0.out] at x0 x1 x2 x3 x4 x5 HLx HCx
        rw [HY0.out] at y0 y1 y2 y3 y4 y5 HLy HCy
        clear hfx hfy
        go_wp2_with (first | (go_at_call 158; (with_reducible refine (dom_parent.calls _ _ _ HP.out).mono ?_); rintro e w' ⟨rfl, ⟨nd, rfl⟩⟩))
        go_quiet ((go_at_call 77; (with_reducible refine (slices_Index_int_int.calls k _ _ _ e3 _ _ ?s1 ?s2 HX.out).mono ?_); (case s1 => repeat (first | (with_reducible exact HCx.out) | (with_reducible refine Kd.C_drewN ?_ _) | (with_reducible refine Kd.C_drew ?_))); (case s2 => exact HLx.out); rintro e w' ⟨rfl, ⟨nd, rfl⟩⟩; (try first | exact ⟨rfl, _, rfl⟩ | exact ⟨rfl, _, World.drewN_drewN _ _ _⟩ | exact ⟨rfl, _, Eq.trans (World.drewN_drewN _ _ _) (congrArg (World.drewN _) (Nat.add_assoc _ _ _))⟩)))
        go_wp2
        go_ret
        exact ⟨rfl, (by repeat (first | exact HI.out | refine IsEd.drewN ?_ _ | refine IsEd.drew ?_)), (z8 HB.out)⟩
     case n3 =>
      intro c3 h
      replace h := iB h
      obtain ⟨bl, HBL, h⟩ := h
      refine iV h ?p4 ?n4 <;> clear h
      case p4 =>
       intro c4 h
       subst c4
       simp only [Option.some.injEq, Prod.mk.injEq] at h
       obtain ⟨rfl, rfl⟩ := h
       by_cases cb : e3 = -1
       ·have h9 := HIX.out
        rw [if_pos cb] at h9
        obtain rfl := Option.some.inj h9
        have cb1 : (e3 == -1) = true := beq_iff_eq.mpr cb
        have cb2 : (e3 != -1) = false := bne_eq_false_iff_eq.mpr cb
        clear cb HIX h9
        rcases q3 with rfl | ⟨rfl, rfl⟩
        all_goals
         go_enter Tryd.func165, Tryd.ntmps165
         go_wp2_with (first | ((with_reducible refine q07 (N := 3) rfl ?_); refine box1 rfl (N := 3) rfl (cs := #[.int .i64 e0, .int .i64 e1, .int .i64 e2, .int .i64 e3, .string e4, .string e5, .int .i64 e6, .string e7, .slice A8 l8.length c8, .string e9, .int .i64 e10, .slice A11 l11.length c11]) (t := 87) zh ?_; intro gb wb BK GB HS; have HI1 := aS (IsEd.below HI.out HS.out); have HB1 := aS (q01 HB.out HS.out); have HN1 := aS (show g ≠ gb from fun e_ => by have := q0a HI.out.1; have := GB.out; omega); clear HI HB HS; have HI := HI1; have HB := HB1; clear HI1 HB1; obtain ⟨hb0, hb1, hb2, hb3, hb4, hb5, hb6, hb7, hb8, hb9, hb10, hb11⟩ := bk12 BK.out))
         go_quiet (first | (go_at_call 180; (with_reducible refine (q17 (w0 := w0) (g := g) (b := b) (c := c) (ns := ns) (q := q) (m := m) ?s1 e1 h0.out h1.out).mono ?_); (case s1 => repeat (first | (with_reducible exact HI.out) | (with_reducible refine IsEd.drewN ?_ _) | (with_reducible refine IsEd.drew ?_))); rintro e w' ⟨rfl, rfl⟩; (try first | exact ⟨rfl, _, rfl⟩ | exact ⟨rfl, _, World.drewN_drewN _ _ _⟩ | exact ⟨rfl, _, Eq.trans (World.drewN_drewN _ _ _) (congrArg (World.drewN _) (Nat.add_assoc _ _ _))⟩)) | (go_at_call 180; (with_reducible refine (q17 (w0 := w0) (g := g) (b := b) (c := c) (ns := ns) (q := q) (m := m) ?s1 e2 t0.out t1.out).mono ?_); (case s1 => repeat (first | (with_reducible exact HI.out) | (with_reducible refine IsEd.drewN ?_ _) | (with_reducible refine IsEd.drew ?_))); rintro e w' ⟨rfl, rfl⟩; (try first | exact ⟨rfl, _, rfl⟩ | exact ⟨rfl, _, World.drewN_drewN _ _ _⟩ | exact ⟨rfl, _, Eq.trans (World.drewN_drewN _ _ _) (congrArg (World.drewN _) (Nat.add_assoc _ _ _))⟩)))
         obtain ⟨A2x, c2x, A5x, c5x, x0, x1, x2, x3, x4, x5, -, -, HLx, HCx, hfx⟩ := IsEd.elem HI.out e1 h0.out h1.out
         obtain ⟨A2y, c2y, A5y, c5y, y0, y1, y2, y3, y4, y5, -, -, HLy, HCy, hfy⟩ := IsEd.elem HI.out e2 t0.out t1.out
         rw [HX0.out] at x0 x1 x2 x3 x4 x5 HLx HCx
         rw [HY0.out] at y0 y1 y2 y3 y4 y5 HLy HCy
         clear hfx hfy
         go_wp2_with (first | (go_at_call 158; (with_reducible refine (dom_parent.calls _ _ _ HP.out).mono ?_); rintro e w' ⟨rfl, ⟨nd, rfl⟩⟩) | (go_at_call 181; (with_reducible refine (ed_below (w0 := w0) (g := g) (b := b) (c := c) (ns := ns) (q := q) (m := m) k ?s1 _ _ _ HBL.out).mono ?_); (case s1 => repeat (first | (with_reducible exact HI.out) | (with_reducible refine IsEd.drewN ?_ _) | (with_reducible refine IsEd.drew ?_))); rintro e w' ⟨rfl, rfl⟩))
         go_ret
         exact ⟨rfl, (by repeat (first | exact HI.out | refine IsEd.drewN ?_ _ | refine IsEd.drew ?_)), (z8 HB.out)⟩
       ·have HX := aS ((if_neg cb).symm.trans HIX.out)
        have cb1 : (e3 == -1) = false := beq_eq_false_iff_ne.mpr cb
        have cb2 : (e3 != -1) = true := bne_iff_ne.mpr cb
        clear cb HIX
        rcases q3 with rfl | ⟨rfl, rfl⟩
        all_goals
         go_enter Tryd.func165, Tryd.ntmps165
         go_wp2_with (first | ((with_reducible refine q07 (N := 3) rfl ?_); refine box1 rfl (N := 3) rfl (cs := #[.int .i64 e0, .int .i64 e1, .int .i64 e2, .int .i64 e3, .string e4, .string e5, .int .i64 e6, .string e7, .slice A8 l8.length c8, .string e9, .int .i64 e10, .slice A11 l11.length c11]) (t := 87) zh ?_; intro gb wb BK GB HS; have HI1 := aS (IsEd.below HI.out HS.out); have HB1 := aS (q01 HB.out HS.out); have HN1 := aS (show g ≠ gb from fun e_ => by have := q0a HI.out.1; have := GB.out; omega); clear HI HB HS; have HI := HI1; have HB := HB1; clear HI1 HB1; obtain ⟨hb0, hb1, hb2, hb3, hb4, hb5, hb6, hb7, hb8, hb9, hb10, hb11⟩ := bk12 BK.out))
         go_quiet (first | (go_at_call 180; (with_reducible refine (q17 (w0 := w0) (g := g) (b := b) (c := c) (ns := ns) (q := q) (m := m) ?s1 e1 h0.out h1.out).mono ?_); (case s1 => repeat (first | (with_reducible exact HI.out) | (with_reducible refine IsEd.drewN ?_ _) | (with_reducible refine IsEd.drew ?_))); rintro e w' ⟨rfl, rfl⟩; (try first | exact ⟨rfl, _, rfl⟩ | exact ⟨rfl, _, World.drewN_drewN _ _ _⟩ | exact ⟨rfl, _, Eq.trans (World.drewN_drewN _ _ _) (congrArg (World.drewN _) (Nat.add_assoc _ _ _))⟩)) | (go_at_call 180; (with_reducible refine (q17 (w0 := w0) (g := g) (b := b) (c := c) (ns := ns) (q := q) (m := m) ?s1 e2 t0.out t1.out).mono ?_); (case s1 => repeat (first | (with_reducible exact HI.out) | (with_reducible refine IsEd.drewN ?_ _) | (with_reducible refine IsEd.drew ?_))); rintro e w' ⟨rfl, rfl⟩; (try first | exact ⟨rfl, _, rfl⟩ | exact ⟨rfl, _, World.drewN_drewN _ _ _⟩ | exact ⟨rfl, _, Eq.trans (World.drewN_drewN _ _ _) (congrArg (World.drewN _) (Nat.add_assoc _ _ _))⟩)))
         obtain ⟨A2x, c2x, A5x, c5x, x0, x1, x2, x3, x4, x5, -, -, HLx, HCx, hfx⟩ := IsEd.elem HI.out e1 h0.out h1.out
         obtain ⟨A2y, c2y, A5y, c5y, y0, y1, y2, y3, y4, y5, -, -, HLy, HCy, hfy⟩ := IsEd.elem HI.out e2 t0.out t1.out
         rw [HX0.out] at x0 x1 x2 x3 x4 x5 HLx HCx
         rw [HY0.out] at y0 y1 y2 y3 y4 y5 HLy HCy
         clear hfx hfy
         go_wp2_with (first | (go_at_call 158; (with_reducible refine (dom_parent.calls _ _ _ HP.out).mono ?_); rintro e w' ⟨rfl, ⟨nd, rfl⟩⟩))
         go_quiet ((go_at_call 77; (with_reducible refine (slices_Index_int_int.calls k _ _ _ e3 _ _ ?s1 ?s2 HX.out).mono ?_); (case s1 => repeat (first | (with_reducible exact HCx.out) | (with_reducible refine Kd.C_drewN ?_ _) | (with_reducible refine Kd.C_drew ?_))); (case s2 => exact HLx.out); rintro e w' ⟨rfl, ⟨nd, rfl⟩⟩; (try first | exact ⟨rfl, _, rfl⟩ | exact ⟨rfl, _, World.drewN_drewN _ _ _⟩ | exact ⟨rfl, _, Eq.trans (World.drewN_drewN _ _ _) (congrArg (World.drewN _) (Nat.add_assoc _ _ _))⟩)))
         go_wp2_with (first | (go_at_call 181; (with_reducible refine (ed_below (w0 := w0) (g := g) (b := b) (c := c) (ns := ns) (q := q) (m := m) k ?s1 _ _ _ HBL.out).mono ?_); (case s1 => repeat (first | (with_reducible exact HI.out) | (with_reducible refine IsEd.drewN ?_ _) | (with_reducible refine IsEd.drew ?_))); rintro e w' ⟨rfl, rfl⟩))
         go_ret
         exact ⟨rfl, (by repeat (first | exact HI.out | refine IsEd.drewN ?_ _ | refine IsEd.drew ?_)), (z8 HB.out)⟩
      case n4 =>
       intro c4 h
       subst c4
       replace h := iB h
       obtain ⟨u, HU, h⟩ := h
       replace h := iB h
       obtain ⟨d, HDP, h⟩ := h
       have HH := aS h
       clear h
       go_enter Tryd.func165, Tryd.ntmps165
       go_wp2_with (first | ((with_reducible refine q07 (N := 3) rfl ?_); refine box1 rfl (N := 3) rfl (cs := #[.int .i64 e0, .int .i64 e1, .int .i64 e2, .int .i64 e3, .string e4, .string e5, .int .i64 e6, .string e7, .slice A8 l8.length c8, .string e9, .int .i64 e10, .slice A11 l11.length c11]) (t := 87) zh ?_; intro gb wb BK GB HS; have HI1 := aS (IsEd.below HI.out HS.out); have HB1 := aS (q01 HB.out HS.out); have HN1 := aS (show g ≠ gb from fun e_ => by have := q0a HI.out.1; have := GB.out; omega); clear HI HB HS; have HI := HI1; have HB := HB1; clear HI1 HB1; obtain ⟨hb0, hb1, hb2, hb3, hb4, hb5, hb6, hb7, hb8, hb9, hb10, hb11⟩ := bk12 BK.out))
       go_quiet (first | (go_at_call 180; (with_reducible refine (q17 (w0 := w0) (g := g) (b := b) (c := c) (ns := ns) (q := q) (m := m) ?s1 e1 h0.out h1.out).mono ?_); (case s1 => repeat (first | (with_reducible exact HI.out) | (with_reducible refine IsEd.drewN ?_ _) | (with_reducible refine IsEd.drew ?_))); rintro e w' ⟨rfl, rfl⟩; (try first | exact ⟨rfl, _, rfl⟩ | exact ⟨rfl, _, World.drewN_drewN _ _ _⟩ | exact ⟨rfl, _, Eq.trans (World.drewN_drewN _ _ _) (congrArg (World.drewN _) (Nat.add_assoc _ _ _))⟩)) | (go_at_call 180; (with_reducible refine (q17 (w0 := w0) (g := g) (b := b) (c := c) (ns := ns) (q := q) (m := m) ?s1 e2 t0.out t1.out).mono ?_); (case s1 => repeat (first | (with_reducible exact HI.out) | (with_reducible refine IsEd.drewN ?_ _) | (with_reducible refine IsEd.drew ?_))); rintro e w' ⟨rfl, rfl⟩; (try first | exact ⟨rfl, _, rfl⟩ | exact ⟨rfl, _, World.drewN_drewN _ _ _⟩ | exact ⟨rfl, _, Eq.trans (World.drewN_drewN _ _ _) (congrArg (World.drewN _) (Nat.add_assoc _ _ _))⟩)))
       obtain ⟨A2x, c2x, A5x, c5x, x0, x1, x2, x3, x4, x5, -, -, HLx, HCx, hfx⟩ := IsEd.elem HI.out e1 h0.out h1.out
       obtain ⟨A2y, c2y, A5y, c5y, y0, y1, y2, y3, y4, y5, -, -, HLy, HCy, hfy⟩ := IsEd.elem HI.out e2 t0.out t1.out
       rw [HX0.out] at x0 x1 x2 x3 x4 x5 HLx HCx
       rw [HY0.out] at y0 y1 y2 y3 y4 y5 HLy HCy
       clear hfx hfy
       go_upto_block 0 with (fail)
       go_cut [4] (fun v4 wc => v4 = .int .i64 0 ∧ ∃ n_ : Nat, wc = wb.drewN n_)
       case first =>
        rcases q3 with rfl | ⟨rfl, rfl⟩
        all_goals
         go_wp2_with (first | (go_at_call 158; (with_reducible refine (dom_parent.calls _ _ _ HP.out).mono ?_); rintro e w' ⟨rfl, ⟨nd, rfl⟩⟩))
         go_meet
         case rel => exact ⟨rfl, _, by first | rfl | exact World.drewN_drewN _ _ _ | (rw [World.drewN_drewN, World.drewN_drewN])⟩
       case rest =>
        obtain ⟨rfl, n1_, rfl⟩ := hcut
        go_upto_if 64 with (fail)
        go_cut [7] (fun v7 wc => v7 = .int .i64 i ∧ ∃ n_ : Nat, wc = wb.drewN n_)
        case first =>
         by_cases cb : e3 = -1
         ·have h9 := HIX.out
          rw [if_pos cb] at h9
          obtain rfl := Option.some.inj h9
          have cb1 : (e3 == -1) = true := beq_iff_eq.mpr cb
          have cb2 : (e3 != -1) = false := bne_eq_false_iff_eq.mpr cb
          clear cb HIX h9
          go_wp2
          go_meet
          case rel => exact ⟨rfl, _, by first | rfl | exact World.drewN_drewN _ _ _ | (rw [World.drewN_drewN, World.drewN_drewN])⟩
         ·have HX := aS ((if_neg cb).symm.trans HIX.out)
          have cb1 : (e3 == -1) = false := beq_eq_false_iff_ne.mpr cb
          have cb2 : (e3 != -1) = true := bne_iff_ne.mpr cb
          clear cb HIX
          go_wp2
          go_quiet ((go_at_call 77; (with_reducible refine (slices_Index_int_int.calls k _ _ _ e3 _ _ ?s1 ?s2 HX.out).mono ?_); (case s1 => repeat (first | (with_reducible exact HCx.out) | (with_reducible refine Kd.C_drewN ?_ _) | (with_reducible refine Kd.C_drew ?_))); (case s2 => exact HLx.out); rintro e w' ⟨rfl, ⟨nd, rfl⟩⟩; (try first | exact ⟨rfl, _, rfl⟩ | exact ⟨rfl, _, World.drewN_drewN _ _ _⟩ | exact ⟨rfl, _, Eq.trans (World.drewN_drewN _ _ _) (congrArg (World.drewN _) (Nat.add_assoc _ _ _))⟩)))
          go_wp2
          go_meet
          case rel => exact ⟨rfl, _, by first | rfl | exact World.drewN_drewN _ _ _ | (rw [World.drewN_drewN, World.drewN_drewN])⟩
        case rest =>
         obtain ⟨rfl, n2_, rfl⟩ := hcut
         go_upto_block 1 with (fail)
         go_cut [4] (fun v4 wc => v4 = .int .i64 0 ∧ Aside0 (decide ((40 : Int) < wrap64 (wrap64 (u + 1) + d)) = false) ∧ Aside0 (IsEd w0 wc g b c ns q m) ∧ Aside0 (Below w0.heap.size w0 wc) ∧ Aside0 (wc.heap[gb]? = some (.cells #[.int .i64 e0, .int .i64 e1, .int .i64 e2, .int .i64 e3, .string e4, .string e5, .int .i64 e6, .string e7, .slice A8 l8.length c8, .string e9, .int .i64 e10, .slice A11 l11.length c11] 87 (0, 0))))
         case first =>
          go_wp2_with (first | (go_at_call 181; (with_reducible refine (ed_below (w0 := w0) (g := g) (b := b) (c := c) (ns := ns) (q := q) (m := m) k ?s1 _ _ _ HBL.out).mono ?_); (case s1 => repeat (first | (with_reducible exact HI.out) | (with_reducible refine IsEd.drewN ?_ _) | (with_reducible refine IsEd.drew ?_))); rintro e w' ⟨rfl, rfl⟩))
          obtain ⟨hz0, hz1, hz2, -, -, -⟩ := bk3 HI.out.1
          go_region_law (first | (go_simp; go_at_call 102; refine (dom_up.calls k (some ⟨b, 0, none⟩) c ns q e1 _ _ ?sC ?sL HU.out).mono ?_; (case sC => refine IsEd.readsC (w0 := w0) (g := g) (c := c) (q := q) (m := m) ?_; repeat (first | exact HI.out | refine IsEd.drewN ?_ _ | refine IsEd.drew ?_)); (case sL => exact IsEd.readsL HI.out); rintro e w6 ⟨rfl, hbl⟩; have HI6 := aS (IsEd.below (w0 := w0) (g := g) (b := b) (c := c) (ns := ns) (q := q) (m := m) (by repeat (first | exact HI.out | refine IsEd.drewN ?_ _ | refine IsEd.drew ?_)) hbl); have HB6 := aS (q01 (z8 HB.out) hbl); have BK6 := aS (q02 (g := gb) (o := .cells #[.int .i64 e0, .int .i64 e1, .int .i64 e2, .int .i64 e3, .string e4, .string e5, .int .i64 e6, .string e7, .slice A8 l8.length c8, .string e9, .int .i64 e10, .slice A11 l11.length c11] 87 (0, 0)) (by repeat (first | exact BK.out | refine blk_drewN ?_ _ | refine q2c ?_)) hbl); clear hbl HI HB BK x0 x1 x2 x3 x4 x5 y0 y1 y2 y3 y4 y5 HLx HCx HLy HCy hb0 hb1 hb2 hb3 hb4 hb5 hb6 hb7 hb8 hb9 hb10 hb11 hz0 hz1 hz2; have HI := HI6; have HB := HB6; have BK := BK6; clear HI6 HB6 BK6; obtain ⟨hb0, hb1, hb2, hb3, hb4, hb5, hb6, hb7, hb8, hb9, hb10, hb11⟩ := bk12 BK.out; obtain ⟨hz0, hz1, hz2, -, -, -⟩ := bk3 HI.out.1) | (go_simp; go_at_call 182; refine (ed_deep (w0 := w0) (g := g) (b := b) (c := c) (ns := ns) (q := q) (m := m) (by repeat (first | exact HI.out | refine IsEd.drewN ?_ _ | refine IsEd.drew ?_)) k k (Nat.le_refl _) e2 _ HDP.out).mono ?_; rintro e w' ⟨rfl, rfl⟩))
          all_goals
           have h := HH.out
           refine iT h ?p5 ?n5 <;> clear h
           case p5 =>
            intro c5 h
            simp only [Option.some.injEq, Prod.mk.injEq] at h
            obtain ⟨rfl, rfl⟩ := h
            have c6 : decide ((40 : Int) < IntKind.i64.wrap (IntKind.i64.wrap (u + 1) + d)) = true := by rw [q0d, q0d]; exact c5
            have c7 := aS (of_decide_eq_true c6)
            clear c5 HH
            go_wp2
            all_goals first | (exfalso; have := c7.out; omega) | (go_ret; exact ⟨rfl, (by repeat (first | exact HI.out | refine IsEd.drewN ?_ _ | refine IsEd.drew ?_)), (z8 HB.out)⟩)
           case n5 =>
            intro c5 h
            have C5 := aS c5
            have c6 : decide ((40 : Int) < IntKind.i64.wrap (IntKind.i64.wrap (u + 1) + d)) = false := by rw [q0d, q0d]; exact c5
            have c7 := aS (Int.not_lt.1 (of_decide_eq_false c6))
            clear c5 h HH
            go_wp2
            all_goals first | (exfalso; have := c7.out; omega) | (go_meet; case rel => exact ⟨rfl, C5, ⟨by repeat (first | exact HI.out | refine IsEd.drewN ?_ _ | refine IsEd.drew ?_)⟩, ⟨(z8 HB.out)⟩, ⟨by repeat (first | exact BK.out | refine blk_drewN ?_ _ | refine q2c ?_)⟩⟩)
         case rest =>
          clear HI HB BK x0 x1 x2 x3 x4 x5 y0 y1 y2 y3 y4 y5 HLx HCx HLy HCy hb0 hb1 hb2 hb3 hb4 hb5 hb6 hb7 hb8 hb9 hb10 hb11
          obtain ⟨rfl, C5, HI, HB, BK⟩ := hcut
          have h := HH.out
          refine iT h ?pp ?nn <;> clear h HH
          case pp =>
           intro c5 h
           exact absurd (c5.symm.trans C5.out) (by decide)
          case nn =>
           intro c5 h
           clear c5 C5
           refine iGp h ?_
           clear h
           intro ⟨d1, d2⟩ h
           simp only [Option.some.injEq, Prod.mk.injEq] at h
           obtain ⟨rfl, rfl⟩ := h
           obtain ⟨j, rfl⟩ := Int.eq_ofNat_of_zero_le (Int.not_lt.1 (of_decide_eq_false c3))
           have HJ := aS (show j ≤ x.f5.length by omega)
           have HLN := aS d2
           clear d1 d2 c3
           obtain ⟨oki, A5, c5, x5, hf5, R5, hok, put5⟩ := IsEd.row5 HI.out e1 h0.out h1.out
           rw [HX0.out] at x5 R5 put5
           have HR5 := aS R5
           have HOK := aS hok
           have HP5 := aS (@put5)
           have HX5 := aS x5
           have HF5 := aS hf5
           clear R5 hok put5
           obtain ⟨hb0, hb1, hb2, hb3, hb4, hb5, hb6, hb7, hb8, hb9, hb10, hb11⟩ := bk12 BK.out
           obtain ⟨Ay2, cy2, Ay5, cy5, -, -, -, -, y4, -, -, -, -, -, hfy⟩ := IsEd.elem HI.out e2 t0.out t1.out
           rw [HY0.out] at y4
           have hy4 := hfy 4
           have HY4 := aS y4
           have HB1 := aS hb1
           clear hfy
           have HNB : Aside0 (some b ≠ (Value.slice A5 x.f5.length c5).ownBlock) := ⟨fun e_ => (HOK.out b (HR5.out.1 b e_.symm)).2 rfl⟩
           have hgb : ¬ gb = b := fun e_ => by
            obtain ⟨cs_, hc_⟩ := Kd.S_typed HI.out.2.2 b (by simp [Value.ownBlock])
            have hk_ := BK.out
            rw [e_, hc_] at hk_
            injection hk_ with hk_
            injection hk_ with _ hk_ _
            exact absurd hk_ (by decide)
           have hgb' : ¬ b = gb := fun e_ => hgb e_.symm
           go_wp2
           have x5a := Lib.cell?_alloc_some (o := Obj.cells #[Value.int IntKind.i64 e2] 3) x5
           have hb1a := Lib.cell?_alloc_some (o := Obj.cells #[Value.int IntKind.i64 e2] 3) hb1
           have hb2a := Lib.cell?_alloc_some (o := Obj.cells #[Value.int IntKind.i64 e2] 3) hb2
           go_region_law (first | (go_simp; go_at_call 153; refine (ed_ins (ok := oki) (base := w0.heap.size) (A := A5) (c := c5) (l := x.f5) (i := j) (x := e2) (vb := wc.heap.size) ?sR ?sb HJ.out HLN.out ?sv ?sn).mono ?_; (case sR => repeat (first | exact HR5.out | refine Kd.R_drewN ?_ _ | refine Kd.R_drew ?_ | refine Kd.R_alloc ?_ _)); (case sb => (have := HB.out.size; simp; omega)); (case sv => exact heap_alloc_new wc _); (case sn => (intro a_ ha_ e_; have := Kd.R_lt HR5.out a_.block (by rw [ha_]; simp [Value.ownBlock]); omega)); rintro e w7 ⟨v7, rfl, hr7, hg7⟩; obtain ⟨A7, c7, e7_⟩ := Kd.R_slice hr7; generalize (x.f5.take j ++ e2 :: x.f5.drop j).length = L7 at e7_; subst e7_; have hG := Cl.grown_step (q1x (w := wc) (q0g (q0i (Below.refl _ _) _)) _) hg7; have hsz : wc.heap.size ≤ ((wc.alloc (Obj.cells #[Value.int IntKind.i64 e2] 3)).drew).heap.size := (by simp); have HR7 := aS (Kd.R_mono (ok' := fun k_ => oki k_ ∨ k_ ≠ g ∧ wc.heap.size ≤ k_) hr7 (fun k_ hk_ => hk_.imp id (fun h_ => ⟨(fun e_ => by have := q0a HI.out.1; omega), Nat.le_trans hsz h_⟩))); replace x5 := hG.cell HX5.out HNB.out; replace hf5 := (ed_frozen hG HNB.out HX5.out).trans HF5.out; replace y4 := hG.cell HY4.out HNB.out; replace hy4 := (ed_frozen hG HNB.out HY4.out).trans hy4; replace hb1 := hG.cell HB1.out (Kd.R_ne HR5.out BK.out (by decide)); have HG7 := aS hG; clear hG hg7 hr7 hsz x5a hb1a hb2a hb0 hb2 hb3 hb4 hb5 hb6 hb7 hb8 hb9 hb10 hb11))
           go_wp2
           all_goals
            go_ret
            have hA := HP5.out HG7.out HR7.out
            refine ⟨rfl, IsEd.put hA e2 t0.out (by rw [List.length_set]; exact t1.out) _ 4 _ (by decide) (fun ok v2 v5 g2 g5 => q28 _ w0.heap.size ok { q00 (ns.set e1.toNat { x with f5 := x.f5.take j ++ e2 :: x.f5.drop j }) e2 with f4 := e1 } g2 g5), ?_⟩
            exact q08 (q08 (ed_below_grown HB.out HR5.out HG7.out) (IsEd.ge HI.out).1) (IsEd.ge HI.out).1
  ·have h := (if_neg hr).symm.trans h2
   clear h2
   simp only [Option.some.injEq, Prod.mk.injEq] at h
   obtain ⟨rfl, rfl⟩ := h
   have TO := aS (show e2 < 0 ∨ (ns.length : Int) ≤ e2 by omega)
   clear hr
   go_enter Tryd.func165, Tryd.ntmps165
   go_wp2_with (first | ((with_reducible refine q07 (N := 3) rfl ?_); refine box1 rfl (N := 3) rfl (cs := #[.int .i64 e0, .int .i64 e1, .int .i64 e2, .int .i64 e3, .string e4, .string e5, .int .i64 e6, .string e7, .slice A8 l8.length c8, .string e9, .int .i64 e10, .slice A11 l11.length c11]) (t := 87) zh ?_; intro gb wb BK GB HS; have HI1 := aS (IsEd.below HI.out HS.out); have HB1 := aS (q01 HB.out HS.out); have HN1 := aS (show g ≠ gb from fun e_ => by have := q0a HI.out.1; have := GB.out; omega); clear HI HB HS; have HI := HI1; have HB := HB1; clear HI1 HB1; obtain ⟨hb0, hb1, hb2, hb3, hb4, hb5, hb6, hb7, hb8, hb9, hb10, hb11⟩ := bk12 BK.out))
   go_quiet (first | (go_at_call 180; (with_reducible refine (q17 (w0 := w0) (g := g) (b := b) (c := c) (ns := ns) (q := q) (m := m) ?s1 e1 h0.out h1.out).mono ?_); (case s1 => repeat (first | (with_reducible exact HI.out) | (with_reducible refine IsEd.drewN ?_ _) | (with_reducible refine IsEd.drew ?_))); rintro e w' ⟨rfl, rfl⟩; (try first | exact ⟨rfl, _, rfl⟩ | exact ⟨rfl, _, World.drewN_drewN _ _ _⟩ | exact ⟨rfl, _, Eq.trans (World.drewN_drewN _ _ _) (congrArg (World.drewN _) (Nat.add_assoc _ _ _))⟩)) | (go_at_call 180; (with_reducible refine (ed_node0 (w0 := w0) (g := g) (b := b) (c := c) (ns := ns) (q := q) (m := m) ?s1 e2 TO.out).mono ?_); (case s1 => repeat (first | (with_reducible exact HI.out) | (with_reducible refine IsEd.drewN ?_ _) | (with_reducible refine IsEd.drew ?_))); rintro e w' ⟨rfl, rfl⟩; (try first | exact ⟨rfl, _, rfl⟩ | exact ⟨rfl, _, World.drewN_drewN _ _ _⟩ | exact ⟨rfl, _, Eq.trans (World.drewN_drewN _ _ _) (congrArg (World.drewN _) (Nat.add_assoc _ _ _))⟩)))
   go_wp2
   go_ret
   exact ⟨rfl, (by repeat (first | exact HI.out | refine IsEd.drewN ?_ _ | refine IsEd.drew ?_)), (z8 HB.out)⟩
 ·have h2 := (if_neg hr).symm.trans h
  clear h
  simp only [Option.some.injEq, Prod.mk.injEq] at h2
  obtain ⟨rfl, rfl⟩ := h2
  have HO := aS (show e1 < 0 ∨ (ns.length : Int) ≤ e1 by omega)
  clear hr
  by_cases hr : 0 ≤ e2 ∧ e2 < (ns.length : Int)
  ·have t0 := aS hr.1
   have t1 := aS hr.2
   clear hr
   go_enter Tryd.func165, Tryd.ntmps165
   go_wp2_with (first | ((with_reducible refine q07 (N := 3) rfl ?_); refine box1 rfl (N := 3) rfl (cs := #[.int .i64 e0, .int .i64 e1, .int .i64 e2, .int .i64 e3, .string e4, .string e5, .int .i64 e6, .string e7, .slice A8 l8.length c8, .string e9, .int .i64 e10, .slice A11 l11.length c11]) (t := 87) zh ?_; intro gb wb BK GB HS; have HI1 := aS (IsEd.below HI.out HS.out); have HB1 := aS (q01 HB.out HS.out); have HN1 := aS (show g ≠ gb from fun e_ => by have := q0a HI.out.1; have := GB.out; omega); clear HI HB HS; have HI := HI1; have HB := HB1; clear HI1 HB1; obtain ⟨hb0, hb1, hb2, hb3, hb4, hb5, hb6, hb7, hb8, hb9, hb10, hb11⟩ := bk12 BK.out))
   go_quiet (first | (go_at_call 180; (with_reducible refine (ed_node0 (w0 := w0) (g := g) (b := b) (c := c) (ns := ns) (q := q) (m := m) ?s1 e1 HO.out).mono ?_); (case s1 => repeat (first | (with_reducible exact HI.out) | (with_reducible refine IsEd.drewN ?_ _) | (with_reducible refine IsEd.drew ?_))); rintro e w' ⟨rfl, rfl⟩; (try first | exact ⟨rfl, _, rfl⟩ | exact ⟨rfl, _, World.drewN_drewN _ _ _⟩ | exact ⟨rfl, _, Eq.trans (World.drewN_drewN _ _ _) (congrArg (World.drewN _) (Nat.add_assoc _ _ _))⟩)) | (go_at_call 180; (with_reducible refine (q17 (w0 := w0) (g := g) (b := b) (c := c) (ns := ns) (q := q) (m := m) ?s1 e2 t0.out t1.out).mono ?_); (case s1 => repeat (first | (with_reducible exact HI.out) | (with_reducible refine IsEd.drewN ?_ _) | (with_reducible refine IsEd.drew ?_))); rintro e w' ⟨rfl, rfl⟩; (try first | exact ⟨rfl, _, rfl⟩ | exact ⟨rfl, _, World.drewN_drewN _ _ _⟩ | exact ⟨rfl, _, Eq.trans (World.drewN_drewN _ _ _) (congrArg (World.drewN _) (Nat.add_assoc _ _ _))⟩)))
   go_wp2
   go_ret
   exact ⟨rfl, (by repeat (first | exact HI.out | refine IsEd.drewN ?_ _ | refine IsEd.drew ?_)), (z8 HB.out)⟩
  ·have TO := aS (show e2 < 0 ∨ (ns.length : Int) ≤ e2 by omega)
   clear hr
   go_enter Tryd.func165, Tryd.ntmps165
   go_wp2_with (first | ((with_reducible refine q07 (N := 3) rfl ?_); refine box1 rfl (N := 3) rfl (cs := #[.int .i64 e0, .int .i64 e1, .int .i64 e2, .int .i64 e3, .string e4, .string e5, .int .i64 e6, .string e7, .slice A8 l8.length c8, .string e9, .int .i64 e10, .slice A11 l11.length c11]) (t := 87) zh ?_; intro gb wb BK GB HS; have HI1 := aS (IsEd.below HI.out HS.out); have HB1 := aS (q01 HB.out HS.out); have HN1 := aS (show g ≠ gb from fun e_ => by have := q0a HI.out.1; have := GB.out; omega); clear HI HB HS; have HI := HI1; have HB := HB1; clear HI1 HB1; obtain ⟨hb0, hb1, hb2, hb3, hb4, hb5, hb6, hb7, hb8, hb9, hb10, hb11⟩ := bk12 BK.out))
   go_quiet (first | (go_at_call 180; (with_reducible refine (ed_node0 (w0 := w0) (g := g) (b := b) (c := c) (ns := ns) (q := q) (m := m) ?s1 e1 HO.out).mono ?_); (case s1 => repeat (first | (with_reducible exact HI.out) | (with_reducible refine IsEd.drewN ?_ _) | (with_reducible refine IsEd.drew ?_))); rintro e w' ⟨rfl, rfl⟩; (try first | exact ⟨rfl, _, rfl⟩ | exact ⟨rfl, _, World.drewN_drewN _ _ _⟩ | exact ⟨rfl, _, Eq.trans (World.drewN_drewN _ _ _) (congrArg (World.drewN _) (Nat.add_assoc _ _ _))⟩)) | (go_at_call 180; (with_reducible refine (ed_node0 (w0 := w0) (g := g) (b := b) (c := c) (ns := ns) (q := q) (m := m) ?s1 e2 TO.out).mono ?_); (case s1 => repeat (first | (with_reducible exact HI.out) | (with_reducible refine IsEd.drewN ?_ _) | (with_reducible refine IsEd.drew ?_))); rintro e w' ⟨rfl, rfl⟩; (try first | exact ⟨rfl, _, rfl⟩ | exact ⟨rfl, _, World.drewN_drewN _ _ _⟩ | exact ⟨rfl, _, Eq.trans (World.drewN_drewN _ _ _) (congrArg (World.drewN _) (Nat.add_assoc _ _ _))⟩)))
   go_wp2
   go_ret
   exact ⟨rfl, (by repeat (first | exact HI.out | refine IsEd.drewN ?_ _ | refine IsEd.drew ?_)), (z8 HB.out)⟩
def q1i (k : Nat) (ns : List S43) (q : Bool) (m : Int) (d n t2 bf : Int) (nm u : ByteArray) (x0 : Int) (x1 : ByteArray) (x2 : List S122) (x3 : ByteArray) (x4 : Int) (x5 : List Int) : Option (List S43 × Int × Int) :=
 if d = 1 then (edAttr ns n nm u).bind fun p => some (p.1, m, p.2) else if d = 2 then (edDrop ns n nm).bind fun p => some (p.1, m, p.2) else if d = 3 then some ((edText ns n u).1, m, (edText ns n u).2) else
 if d = 4 then edMake k ns m x0 x1 x2 x3 x4 x5 else if d = 5 then (edInsert k ns q n t2 bf).bind fun p => some (p.1, m, p.2) else if d = 6 then (edRemove k ns n).bind fun p => some (p.1, m, p.2) else some (ns, m, 1)
set_option maxHeartbeats 4000000 in
set_option maxRecDepth 100000 in
theorem ed_edit {w0 W : World} {g b c : Nat} {ns ns' : List S43} {q : Bool} {m m' r : Int} (k : Nat) (hI : IsEd w0 W g b c ns q m) (hB : Below w0.heap.size w0 W) (e0 e1 e2 e3 : Int) (e4 e5 : ByteArray) (e6 : Int) (e7 : ByteArray) (A8 : Option Addr) (c8 : Nat) (l8 : List S122) (e9 : ByteArray) (e10 : Int) (A11 : Option Addr) (c11 : Nat) (l11 : List Int) (hC8 : Kd.C k122 w0 A8 l8.length l8) (hL8 : l8.length ≤ c8) (hC11 : Kd.C (Kd.int .i64) w0 A11 l11.length l11) (hL11 : l11.length ≤ c11) (h : q1i k ns q m e0 e1 e2 e3 e4 e5 e6 e7 l8 e9 e10 l11 = some (ns', m', r)) :
 Calls Tryd.prog 105 #[.pointer (some ⟨g, 0, none⟩), .agg #[.int .i64 e0, .int .i64 e1, .int .i64 e2, .int .i64 e3, .string e4, .string e5, .int .i64 e6, .string e7, .slice A8 l8.length c8, .string e9, .int .i64 e10, .slice A11 l11.length c11]] W fun e w' => e = .returned (.int .i64 r) ∧ (∃ b' c', IsEd w0 w' g b' c' ns' q m') ∧ Below w0.heap.size w0 w' := by
 have hu87 := Tryd.underlying87
 have hu43 := Tryd.underlying43
 have hu148 := Tryd.underlying148
 have hnil : ∀ w : World, (binOp BinOp.eql 148 .nilFunc .nilFunc).run Tryd.prog w = .ok (.bool true) w := fun _ => by kernel_rfl
 have hfun : ∀ (f : Fn) (x y : Array Value) (w : World), (binOp BinOp.eql 148 (.func f x y) .nilFunc).run Tryd.prog w = .ok (.bool false) w := fun _ _ _ _ => by kernel_rfl
 have HI := aS hI
 have HB := aS hB
 have HC8 := aS hC8
 have HC11 := aS hC11
 have HL8 := aS hL8
 have HL11 := aS hL11
 clear hI hB hC8 hC11 hL8 hL11
 unfold q1i at h
 by_cases n1 : e0 = 1
 ·subst n1
  have hfn : edFn g 1 = .func (.func 161) #[.pointer (some ⟨g, 0, none⟩)] #[] := rfl
  replace h := (if_pos rfl).symm.trans h
  obtain ⟨p, hp, h⟩ := Option.bind_eq_some_iff.1 h
  obtain ⟨p1, p2⟩ := p
  simp only [Option.some.injEq, Prod.mk.injEq] at h
  obtain ⟨rfl, rfl, rfl⟩ := h
  have HH := aS hp
  clear hp
  go_enter Tryd.func105, Tryd.ntmps105
  go_wp2_with (first | ((with_reducible refine q07 (N := 3) rfl ?_); refine box1 rfl (N := 3) rfl (cs := #[.int .i64 (1), .int .i64 e1, .int .i64 e2, .int .i64 e3, .string e4, .string e5, .int .i64 e6, .string e7, .slice A8 l8.length c8, .string e9, .int .i64 e10, .slice A11 l11.length c11]) (t := 87) zh ?_; intro gb wb BK GB HS; have HI1 := aS (IsEd.below HI.out HS.out); have HB1 := aS (q01 HB.out HS.out); have HN1 := aS (show g ≠ gb from fun e_ => by have := q0a HI.out.1; have := GB.out; omega); clear HI HB HS; have HI := HI1; have HB := HB1; clear HI1 HB1; obtain ⟨hb0, hb1, hb2, hb3, hb4, hb5, hb6, hb7, hb8, hb9, hb10, hb11⟩ := bk12 BK.out) | (go_at_call 140; refine (ed_does _ g (1 : Int)).mono ?_; rintro e w' ⟨rfl, rfl⟩))
  refine (ed_attrib HI.out HB.out (1 : Int) e1 e2 e3 e4 e5 e6 e7 A8 c8 l8 e9 e10 A11 c11 l11 HH.out).mono ?_
  rintro e w' ⟨rfl, h2_, h3_⟩
  go_wp2
  go_ret
  exact ⟨rfl, ⟨_, _, h2_⟩, h3_⟩
 ·replace h := (if_neg n1).symm.trans h
  by_cases n2 : e0 = 2
  ·subst n2
   have hfn : edFn g 2 = .func (.func 162) #[.pointer (some ⟨g, 0, none⟩)] #[] := rfl
   replace h := (if_pos rfl).symm.trans h
   obtain ⟨p, hp, h⟩ := Option.bind_eq_some_iff.1 h
   obtain ⟨p1, p2⟩ := p
   simp only [Option.some.injEq, Prod.mk.injEq] at h
   obtain ⟨rfl, rfl, rfl⟩ := h
   have HH := aS hp
   clear hp
   go_enter Tryd.func105, Tryd.ntmps105
   go_wp2_with (first | ((with_reducible refine q07 (N := 3) rfl ?_); refine box1 rfl (N := 3) rfl (cs := #[.int .i64 (2), .int .i64 e1, .int .i64 e2, .int .i64 e3, .string e4, .string e5, .int .i64 e6, .string e7, .slice A8 l8.length c8, .string e9, .int .i64 e10, .slice A11 l11.length c11]) (t := 87) zh ?_; intro gb wb BK GB HS; have HI1 := aS (IsEd.below HI.out HS.out); have HB1 := aS (q01 HB.out HS.out); have HN1 := aS (show g ≠ gb from fun e_ => by have := q0a HI.out.1; have := GB.out; omega); clear HI HB HS; have HI := HI1; have HB := HB1; clear HI1 HB1; obtain ⟨hb0, hb1, hb2, hb3, hb4, hb5, hb6, hb7, hb8, hb9, hb10, hb11⟩ := bk12 BK.out) | (go_at_call 140; refine (ed_does _ g (2 : Int)).mono ?_; rintro e w' ⟨rfl, rfl⟩))
   refine (ed_drop HI.out HB.out (2 : Int) e1 e2 e3 e4 e5 e6 e7 A8 c8 l8 e9 e10 A11 c11 l11 HH.out).mono ?_
   rintro e w' ⟨rfl, h2_, h3_⟩
   go_wp2
   go_ret
   exact ⟨rfl, ⟨_, _, h2_⟩, h3_⟩
  ·replace h := (if_neg n2).symm.trans h
   by_cases n3 : e0 = 3
   ·subst n3
    have hfn : edFn g 3 = .func (.func 163) #[.pointer (some ⟨g, 0, none⟩)] #[] := rfl
    replace h := (if_pos rfl).symm.trans h
    simp only [Option.some.injEq, Prod.mk.injEq] at h
    obtain ⟨rfl, rfl, rfl⟩ := h
    go_enter Tryd.func105, Tryd.ntmps105
    go_wp2_with (first | ((with_reducible refine q07 (N := 3) rfl ?_); refine box1 rfl (N := 3) rfl (cs := #[.int .i64 (3), .int .i64 e1, .int .i64 e2, .int .i64 e3, .string e4, .string e5, .int .i64 e6, .string e7, .slice A8 l8.length c8, .string e9, .int .i64 e10, .slice A11 l11.length c11]) (t := 87) zh ?_; intro gb wb BK GB HS; have HI1 := aS (IsEd.below HI.out HS.out); have HB1 := aS (q01 HB.out HS.out); have HN1 := aS (show g ≠ gb from fun e_ => by have := q0a HI.out.1; have := GB.out; omega); clear HI HB HS; have HI := HI1; have HB := HB1; clear HI1 HB1; obtain ⟨hb0, hb1, hb2, hb3, hb4, hb5, hb6, hb7, hb8, hb9, hb10, hb11⟩ := bk12 BK.out) | (go_at_call 140; refine (ed_does _ g (3 : Int)).mono ?_; rintro e w' ⟨rfl, rfl⟩))
    refine (ed_text HI.out HB.out (3 : Int) e1 e2 e3 e4 e5 e6 e7 A8 c8 l8 e9 e10 A11 c11 l11).mono ?_
    rintro e w' ⟨rfl, h2_, h3_⟩
    go_wp2
    go_ret
    exact ⟨rfl, ⟨_, _, h2_⟩, h3_⟩
   ·replace h := (if_neg n3).symm.trans h
    by_cases n4 : e0 = 4
    ·subst n4
     have hfn : edFn g 4 = .func (.func 164) #[.pointer (some ⟨g, 0, none⟩)] #[] := rfl
     replace h := (if_pos rfl).symm.trans h
     have HH := aS h
     clear h
     go_enter Tryd.func105, Tryd.ntmps105
     go_wp2_with (first | ((with_reducible refine q07 (N := 3) rfl ?_); refine box1 rfl (N := 3) rfl (cs := #[.int .i64 (4), .int .i64 e1, .int .i64 e2, .int .i64 e3, .string e4, .string e5, .int .i64 e6, .string e7, .slice A8 l8.length c8, .string e9, .int .i64 e10, .slice A11 l11.length c11]) (t := 87) zh ?_; intro gb wb BK GB HS; have HI1 := aS (IsEd.below HI.out HS.out); have HB1 := aS (q01 HB.out HS.out); have HN1 := aS (show g ≠ gb from fun e_ => by have := q0a HI.out.1; have := GB.out; omega); clear HI HB HS; have HI := HI1; have HB := HB1; clear HI1 HB1; obtain ⟨hb0, hb1, hb2, hb3, hb4, hb5, hb6, hb7, hb8, hb9, hb10, hb11⟩ := bk12 BK.out) | (go_at_call 140; refine (ed_does _ g (4 : Int)).mono ?_; rintro e w' ⟨rfl, rfl⟩))
     refine (ed_make k HI.out HB.out (4 : Int) e1 e2 e3 e4 e5 e6 e7 A8 c8 l8 e9 e10 A11 c11 l11 HC8.out HL8.out HC11.out HL11.out HH.out).mono ?_
     rintro e w' ⟨rfl, h2_, h3_⟩
     go_wp2
     go_ret
     exact ⟨rfl, h2_, h3_⟩
    ·replace h := (if_neg n4).symm.trans h
     by_cases n5 : e0 = 5
     ·subst n5
      have hfn : edFn g 5 = .func (.func 165) #[.pointer (some ⟨g, 0, none⟩)] #[] := rfl
      replace h := (if_pos rfl).symm.trans h
      obtain ⟨p, hp, h⟩ := Option.bind_eq_some_iff.1 h
      obtain ⟨p1, p2⟩ := p
      simp only [Option.some.injEq, Prod.mk.injEq] at h
      obtain ⟨rfl, rfl, rfl⟩ := h
      have HH := aS hp
      clear hp
      go_enter Tryd.func105, Tryd.ntmps105
      go_wp2_with (first | ((with_reducible refine q07 (N := 3) rfl ?_); refine box1 rfl (N := 3) rfl (cs := #[.int .i64 (5), .int .i64 e1, .int .i64 e2, .int .i64 e3, .string e4, .string e5, .int .i64 e6, .string e7, .slice A8 l8.length c8, .string e9, .int .i64 e10, .slice A11 l11.length c11]) (t := 87) zh ?_; intro gb wb BK GB HS; have HI1 := aS (IsEd.below HI.out HS.out); have HB1 := aS (q01 HB.out HS.out); have HN1 := aS (show g ≠ gb from fun e_ => by have := q0a HI.out.1; have := GB.out; omega); clear HI HB HS; have HI := HI1; have HB := HB1; clear HI1 HB1; obtain ⟨hb0, hb1, hb2, hb3, hb4, hb5, hb6, hb7, hb8, hb9, hb10, hb11⟩ := bk12 BK.out) | (go_at_call 140; refine (ed_does _ g (5 : Int)).mono ?_; rintro e w' ⟨rfl, rfl⟩))
      refine (ed_insert k HI.out HB.out (5 : Int) e1 e2 e3 e4 e5 e6 e7 A8 c8 l8 e9 e10 A11 c11 l11 HH.out).mono ?_
      rintro e w' ⟨rfl, h2_, h3_⟩
      go_wp2
      go_ret
      exact ⟨rfl, ⟨_, _, h2_⟩, h3_⟩
     ·replace h := (if_neg n5).symm.trans h
      by_cases n6 : e0 = 6
      ·subst n6
       have hfn : edFn g 6 = .func (.func 166) #[.pointer (some ⟨g, 0, none⟩)] #[] := rfl
       replace h := (if_pos rfl).symm.trans h
       obtain ⟨p, hp, h⟩ := Option.bind_eq_some_iff.1 h
       obtain ⟨p1, p2⟩ := p
       simp only [Option.some.injEq, Prod.mk.injEq] at h
       obtain ⟨rfl, rfl, rfl⟩ := h
       have HH := aS hp
       clear hp
       go_enter Tryd.func105, Tryd.ntmps105
       go_wp2_with (first | ((with_reducible refine q07 (N := 3) rfl ?_); refine box1 rfl (N := 3) rfl (cs := #[.int .i64 (6), .int .i64 e1, .int .i64 e2, .int .i64 e3, .string e4, .string e5, .int .i64 e6, .string e7, .slice A8 l8.length c8, .string e9, .int .i64 e10, .slice A11 l11.length c11]) (t := 87) zh ?_; intro gb wb BK GB HS; have HI1 := aS (IsEd.below HI.out HS.out); have HB1 := aS (q01 HB.out HS.out); have HN1 := aS (show g ≠ gb from fun e_ => by have := q0a HI.out.1; have := GB.out; omega); clear HI HB HS; have HI := HI1; have HB := HB1; clear HI1 HB1; obtain ⟨hb0, hb1, hb2, hb3, hb4, hb5, hb6, hb7, hb8, hb9, hb10, hb11⟩ := bk12 BK.out) | (go_at_call 140; refine (ed_does _ g (6 : Int)).mono ?_; rintro e w' ⟨rfl, rfl⟩))
       refine (ed_remove k HI.out HB.out (6 : Int) e1 e2 e3 e4 e5 e6 e7 A8 c8 l8 e9 e10 A11 c11 l11 HH.out).mono ?_
       rintro e w' ⟨rfl, h2_, h3_⟩
       go_wp2
       go_ret
       exact ⟨rfl, ⟨_, _, h2_⟩, h3_⟩
      ·replace h := (if_neg n6).symm.trans h
       simp only [Option.some.injEq, Prod.mk.injEq] at h
       obtain ⟨rfl, rfl, rfl⟩ := h
       have hfn : edFn g e0 = .nilFunc := by unfold edFn; rw [if_neg n1, if_neg n2, if_neg n3, if_neg n4, if_neg n5, if_neg n6]
       clear n1 n2 n3 n4 n5 n6
       go_enter Tryd.func105, Tryd.ntmps105
       go_wp2_with (first | ((with_reducible refine q07 (N := 3) rfl ?_); refine box1 rfl (N := 3) rfl (cs := #[.int .i64 e0, .int .i64 e1, .int .i64 e2, .int .i64 e3, .string e4, .string e5, .int .i64 e6, .string e7, .slice A8 l8.length c8, .string e9, .int .i64 e10, .slice A11 l11.length c11]) (t := 87) zh ?_; intro gb wb BK GB HS; have HI1 := aS (IsEd.below HI.out HS.out); have HB1 := aS (q01 HB.out HS.out); have HN1 := aS (show g ≠ gb from fun e_ => by have := q0a HI.out.1; have := GB.out; omega); clear HI HB HS; have HI := HI1; have HB := HB1; clear HI1 HB1; obtain ⟨hb0, hb1, hb2, hb3, hb4, hb5, hb6, hb7, hb8, hb9, hb10, hb11⟩ := bk12 BK.out) | (go_at_call 140; refine (ed_does _ g e0).mono ?_; rintro e w' ⟨rfl, rfl⟩))
       go_ret
       exact ⟨rfl, ⟨_, _, HI.out⟩, HB.out⟩
theorem edBelow_mono (ns : List S43) (top : Int) : ∀ (k : Nat) (n : Int), LeO (edBelow ns top k n) (edBelow ns top (k + 1) n)
 | 0, _ => LeO.none _
 | k + 1, n => LeO.ite (LeO.ite (LeO.refl _) (LeO.ite (edBelow_mono ns top k _) (LeO.refl _))) (LeO.refl _)
theorem edDeep_both (ns : List S43) : ∀ k : Nat, (∀ n, LeO (edDeep ns k n) (edDeep ns (k + 1) n)) ∧ ∀ l i mo, LeO (edDeepL ns k l i mo) (edDeepL ns (k + 1) l i mo)
 | 0 => ⟨fun _ r h => by simp [edDeep] at h, fun _ _ _ r h => by simp [edDeepL] at h⟩
 | k + 1 => by
  obtain ⟨h1, h2⟩ := edDeep_both ns k
  refine ⟨fun n => ?_, fun l i mo => ?_⟩
  ·unfold edDeep
   exact LeO.ite (LeO.ite (h2 _ _ _) (LeO.refl _)) (LeO.refl _)
  ·unfold edDeepL
   exact LeO.ite (LeO.ite (LeO.bind (h1 _) fun _ => LeO.ite (h2 _ _ _) (h2 _ _ _)) (LeO.refl _)) (LeO.refl _)
theorem edInsert_mono (ns : List S43) (q : Bool) (n tt bf : Int) (k : Nat) : LeO (edInsert k ns q n tt bf) (edInsert (k + 1) ns q n tt bf) :=
 LeO.ite (LeO.ite (LeO.bind (LeO.refl _) fun _ => LeO.ite (LeO.refl _) (LeO.ite (LeO.refl _) (LeO.bind (LeO.ite (LeO.refl _) (slices_Index_int_int.mono _ _ k)) fun _ => LeO.ite (LeO.refl _) (LeO.bind (edBelow_mono ns tt k n) fun _ => LeO.ite (LeO.refl _) (LeO.bind (dom_up.mono _ _ _ k) fun _ => LeO.bind ((edDeep_both ns k).1 tt) fun _ => LeO.refl _))))) (LeO.refl _)) (LeO.refl _)
theorem edRemove_mono (ns : List S43) (n : Int) (k : Nat) : LeO (edRemove k ns n) (edRemove (k + 1) ns n) :=
 LeO.ite (LeO.ite (LeO.refl _) (LeO.ite (LeO.refl _) (LeO.ite (LeO.bind (slices_Index_int_int.mono _ _ k) fun _ => LeO.refl _) (LeO.refl _)))) (LeO.refl _)
theorem edMake_mono (ns : List S43) (m : Int) (x0 : Int) (x1 : ByteArray) (x2 : List S122) (x3 : ByteArray) (x4 : Int) (x5 : List Int) (k : Nat) : LeO (edMake k ns m x0 x1 x2 x3 x4 x5) (edMake (k + 1) ns m x0 x1 x2 x3 x4 x5) :=
 LeO.ite (LeO.refl _) (LeO.ite (LeO.refl _) (LeO.bind (dom_one.mono _ _ _ _ _ _ k) fun _ => LeO.refl _))
theorem edEdit_mono (ns : List S43) (q : Bool) (m : Int) (d n t2 bf : Int) (nm u : ByteArray) (x0 : Int) (x1 : ByteArray) (x2 : List S122) (x3 : ByteArray) (x4 : Int) (x5 : List Int) (k : Nat) : LeO (q1i k ns q m d n t2 bf nm u x0 x1 x2 x3 x4 x5) (q1i (k + 1) ns q m d n t2 bf nm u x0 x1 x2 x3 x4 x5) :=
 LeO.ite (LeO.refl _) (LeO.ite (LeO.refl _) (LeO.ite (LeO.refl _) (LeO.ite (edMake_mono _ _ _ _ _ _ _ _ k) (LeO.ite (LeO.bind (edInsert_mono _ _ _ _ _ k) fun _ => LeO.refl _) (LeO.ite (LeO.bind (edRemove_mono _ _ k) fun _ => LeO.refl _) (LeO.refl _))))))
def ownFits (l : List S43) : Bool := decide (l.length * 96 ≤ 140737488355328) && l.all (fun x => decide (x.f2.length * 32 ≤ 140737488355328) && decide (x.f5.length * 8 ≤ 140737488355328))
theorem ownFits_of {l : List S43} (h : ownFits l = true) : l.length * 96 ≤ 140737488355328 ∧ ∀ x ∈ l, x.f2.length * 32 ≤ 140737488355328 ∧ x.f5.length * 8 ≤ 140737488355328 := by
 unfold ownFits at h
 rw [Bool.and_eq_true, List.all_eq_true] at h
 refine ⟨of_decide_eq_true h.1, fun x hx => ?_⟩
 have := h.2 x hx
 rw [Bool.and_eq_true] at this
 exact ⟨of_decide_eq_true this.1, of_decide_eq_true this.2⟩
theorem IsEd.start {w0 w8 w9 : World} {g b c : Nat} {ns : List S43} {q : Bool} {m : Int} (hs : Kd.S k43 43 w8 w0.heap.size (fun _ => True) (.slice (some ⟨b, 0, none⟩) ns.length c) ns) (hb : Below w8.heap.size w8 w9)
 (hk : w9.heap[g]? = some (.cells #[.slice (some ⟨b, 0, none⟩) ns.length c, .bool q, .int .i64 m] 147 (0, 0))) (h0 : w0.heap.size ≤ g) (hg : w8.heap.size ≤ g) : IsEd w0 w9 g b c ns q m :=
 ⟨hk, h0, Kd.S_below (Kd.S_mono (Kd.S_bound hs) (fun k hk e => by have := hk.2.2.1; omega)) hb⟩
def dom_Apply.f (k : Nat) (l0 : List S43) (q : Bool) (e0 e1 e2 e3 : Int) (e4 e5 : ByteArray) (e6 : Int) (e7 : ByteArray) (l8 : List S122) (e9 : ByteArray) (e10 : Int) (l11 : List Int) : Option (List S43 × Bool × Int × Int) :=
 (dom_Check.f k l0 q).bind fun r => if r ≠ 0 then some ([], false, 0, r) else if 0 < l0.length ∧ ownFits l0 = true then
  (q1i k l0 q 0 e0 e1 e2 e3 e4 e5 e6 e7 l8 e9 e10 l11).bind fun p => if p.2.2 ≠ 0 then some ([], false, 0, p.2.2) else some (p.1, q, p.2.1, 0) else none
theorem dom_Apply.mono (l0 : List S43) (q : Bool) (e0 e1 e2 e3 : Int) (e4 e5 : ByteArray) (e6 : Int) (e7 : ByteArray) (l8 : List S122) (e9 : ByteArray) (e10 : Int) (l11 : List Int) (k : Nat) : LeO (dom_Apply.f k l0 q e0 e1 e2 e3 e4 e5 e6 e7 l8 e9 e10 l11) (dom_Apply.f (k + 1) l0 q e0 e1 e2 e3 e4 e5 e6 e7 l8 e9 e10 l11) :=
 LeO.bind (dom_Check.mono l0 q k) fun _ => LeO.ite (LeO.refl _) (LeO.ite (LeO.bind (edEdit_mono l0 q 0 e0 e1 e2 e3 e4 e5 e6 e7 l8 e9 e10 l11 k) fun _ => LeO.refl _) (LeO.refl _))
set_option maxHeartbeats 8000000 in
set_option maxRecDepth 100000 in
theorem dom_Apply.calls (k : Nat) (A0 : Option Addr) (c0 : Nat) (l0 : List S43) (q : Bool) (e0 e1 e2 e3 : Int) (e4 e5 : ByteArray) (e6 : Int) (e7 : ByteArray) (A8 : Option Addr) (c8 : Nat) (l8 : List S122) (e9 : ByteArray) (e10 : Int) (A11 : Option Addr) (c11 : Nat) (l11 : List Int) (r1 : List S43) (r2 : Bool) (r3 r4 : Int) (w : World) (hr0 : Kd.C k43 w A0 l0.length l0) (hc0 : l0.length ≤ c0) (hC8 : Kd.C k122 w A8 l8.length l8) (hL8 : l8.length ≤ c8) (hC11 : Kd.C (Kd.int .i64) w A11 l11.length l11) (hL11 : l11.length ≤ c11) (h : dom_Apply.f k l0 q e0 e1 e2 e3 e4 e5 e6 e7 l8 e9 e10 l11 = some (r1, r2, r3, r4)) :
 Calls Tryd.prog 55 #[.agg #[.slice A0 l0.length c0, .bool q], .agg #[.int .i64 e0, .int .i64 e1, .int .i64 e2, .int .i64 e3, .string e4, .string e5, .int .i64 e6, .string e7, .slice A8 l8.length c8, .string e9, .int .i64 e10, .slice A11 l11.length c11]] w fun e w' => ∃ v0_ : Value, e = .returned (.tuple #[.agg #[v0_, .bool r2], .int .i64 r3, .int .i64 r4]) ∧ Kd.S k43 43 w' w.heap.size (fun _ => True) v0_ r1 ∧ Below w.heap.size w w' := by
 have hu24 := Tryd.underlying24
 have hu87 := Tryd.underlying87
 have hu147 := Tryd.underlying147
 have HC := aS hr0
 have HL := aS hc0
 have HC8 := aS hC8
 have HL8 := aS hL8
 have HC11 := aS hC11
 have HL11 := aS hL11
 clear hr0 hc0 hC8 hL8 hC11 hL11
 unfold dom_Apply.f at h
 obtain ⟨r, hr, h⟩ := Option.bind_eq_some_iff.1 h
 have HE := aS hr
 clear hr
 by_cases z : r ≠ 0
 ·have h2 := (if_pos z).symm.trans h
  clear h
  simp only [Option.some.injEq, Prod.mk.injEq] at h2
  obtain ⟨rfl, rfl, rfl, rfl⟩ := h2
  have z1 : (r != 0) = true := bne_iff_ne.mpr z
  clear z
  go_enter Tryd.func55, Tryd.ntmps55
  go_upto_region 1 with (first | ((with_reducible refine q07 (N := 2) rfl ?_); refine box1 rfl (N := 2) rfl (cs := #[.slice A0 l0.length c0, .bool q]) (t := 24) zh ?_; intro gd wd DK GD DS) | ((with_reducible refine q07 (N := 3) rfl ?_); refine box1 rfl (N := 3) rfl (cs := #[.int .i64 e0, .int .i64 e1, .int .i64 e2, .int .i64 e3, .string e4, .string e5, .int .i64 e6, .string e7, .slice A8 l8.length c8, .string e9, .int .i64 e10, .slice A11 l11.length c11]) (t := 87) zh ?_; intro ge we EK GE ES) | ((with_reducible refine q07 (N := 4) rfl ?_); refine box1 rfl (N := 4) rfl (cs := #[.slice none 0 0, .bool false]) (t := 24) zh ?_; intro gr wr RK GS RS))
  have HB := aS (q01 (q01 DS.out ES.out) RS.out)
  have GR := aS (show w.heap.size ≤ gr from Nat.le_trans (Below.size DS.out) (Nat.le_trans (Below.size ES.out) GS.out))
  have DK1 := aS (q02 (q02 DK.out ES.out) RS.out)
  have EK1 := aS (q02 EK.out RS.out)
  clear DK EK DS ES RS GS GD GE
  have DK := DK1
  have EK := EK1
  clear DK1 EK1
  obtain ⟨hd0, hd1, -, -⟩ := bk2 DK.out
  obtain ⟨hr0, hr1, hrf0, hrf1⟩ := bk2 RK.out
  obtain ⟨ha0, ha1, ha2, ha3, ha4, ha5, ha6, ha7, ha8, ha9, ha10, ha11⟩ := bk12 EK.out
  go_wp2_with (go_at_call 52; refine (dom_Check.calls k A0 c0 l0 q r _ (Kd.C_below HC.out HB.out) HL.out HE.out).mono ?_; rintro e w7 ⟨rfl, hbl⟩; have HB7 := aS (q01 HB.out hbl); have DK7 := aS (q02 DK.out hbl); have EK7 := aS (q02 EK.out hbl); have RK7 := aS (q02 RK.out hbl); clear HB DK EK RK hbl hd0 hd1 hr0 hr1 hrf0 hrf1 ha0 ha1 ha2 ha3 ha4 ha5 ha6 ha7 ha8 ha9 ha10 ha11; have HB := HB7; have DK := DK7; have EK := EK7; have RK := RK7; clear HB7 DK7 EK7 RK7; obtain ⟨hd0, hd1, -, -⟩ := bk2 DK.out; obtain ⟨hr0, hr1, hrf0, hrf1⟩ := bk2 RK.out; obtain ⟨ha0, ha1, ha2, ha3, ha4, ha5, ha6, ha7, ha8, ha9, ha10, ha11⟩ := bk12 EK.out)
  refine bodyPost_ret (q0y rfl _ _ gr 24 #[.slice none 0 0, .bool false] (0, 0) _ rfl (q0h (q0h RK.out 0 _) 1 _) Tryd.underlying24 rfl (by kernel_rfl)) rfl ?_
  exact ⟨_, rfl, Kd.S_nil _ _ _ _ _, q08 (q08 HB.out GR.out) GR.out⟩
 ·have h2 := (if_neg z).symm.trans h
  clear h
  obtain rfl : r = 0 := Classical.not_not.1 z
  clear z
  refine iGp h2 ?_
  clear h2
  intro ⟨hp, hf⟩ h2
  have HP := aS hp
  have HF := aS (ownFits_of hf)
  clear hp hf
  obtain ⟨p, hp, h2⟩ := Option.bind_eq_some_iff.1 h2
  obtain ⟨p1, p2, p3⟩ := p
  have HE2 := aS hp
  clear hp
  by_cases z : p3 ≠ 0
  ·have h3 := (if_pos z).symm.trans h2
   clear h2
   simp only [Option.some.injEq, Prod.mk.injEq] at h3
   obtain ⟨rfl, rfl, rfl, rfl⟩ := h3
   have z1 : (p3 != 0) = true := bne_iff_ne.mpr z
   clear z
   go_enter Tryd.func55, Tryd.ntmps55
   go_upto_region 1 with (first | ((with_reducible refine q07 (N := 2) rfl ?_); refine box1 rfl (N := 2) rfl (cs := #[.slice A0 l0.length c0, .bool q]) (t := 24) zh ?_; intro gd wd DK GD DS) | ((with_reducible refine q07 (N := 3) rfl ?_); refine box1 rfl (N := 3) rfl (cs := #[.int .i64 e0, .int .i64 e1, .int .i64 e2, .int .i64 e3, .string e4, .string e5, .int .i64 e6, .string e7, .slice A8 l8.length c8, .string e9, .int .i64 e10, .slice A11 l11.length c11]) (t := 87) zh ?_; intro ge we EK GE ES) | ((with_reducible refine q07 (N := 4) rfl ?_); refine box1 rfl (N := 4) rfl (cs := #[.slice none 0 0, .bool false]) (t := 24) zh ?_; intro gr wr RK GS RS))
   have HB := aS (q01 (q01 DS.out ES.out) RS.out)
   have GR := aS (show w.heap.size ≤ gr from Nat.le_trans (Below.size DS.out) (Nat.le_trans (Below.size ES.out) GS.out))
   have DK1 := aS (q02 (q02 DK.out ES.out) RS.out)
   have EK1 := aS (q02 EK.out RS.out)
   clear DK EK DS ES RS GS GD GE
   have DK := DK1
   have EK := EK1
   clear DK1 EK1
   obtain ⟨hd0, hd1, -, -⟩ := bk2 DK.out
   obtain ⟨hr0, hr1, hrf0, hrf1⟩ := bk2 RK.out
   obtain ⟨ha0, ha1, ha2, ha3, ha4, ha5, ha6, ha7, ha8, ha9, ha10, ha11⟩ := bk12 EK.out
   go_upto_region 5 with (first | (go_at_call 52; refine (dom_Check.calls k A0 c0 l0 q 0 _ (Kd.C_below HC.out HB.out) HL.out HE.out).mono ?_; rintro e w7 ⟨rfl, hbl⟩; have HB7 := aS (q01 HB.out hbl); have DK7 := aS (q02 DK.out hbl); have EK7 := aS (q02 EK.out hbl); have RK7 := aS (q02 RK.out hbl); clear HB DK EK RK hbl hd0 hd1 hr0 hr1 hrf0 hrf1 ha0 ha1 ha2 ha3 ha4 ha5 ha6 ha7 ha8 ha9 ha10 ha11; have HB := HB7; have DK := DK7; have EK := EK7; have RK := RK7; clear HB7 DK7 EK7 RK7; obtain ⟨hd0, hd1, -, -⟩ := bk2 DK.out; obtain ⟨hr0, hr1, hrf0, hrf1⟩ := bk2 RK.out; obtain ⟨ha0, ha1, ha2, ha3, ha4, ha5, ha6, ha7, ha8, ha9, ha10, ha11⟩ := bk12 EK.out) | (go_at_call 104; refine (ed_own A0 c0 l0 q _ (Kd.C_below HC.out HB.out) HL.out HF.out.1 HF.out.2).mono ?_; rintro e w8 ⟨v8, rfl, hs8, hbl⟩; obtain ⟨b8, cap8, e8_, -, -, -⟩ := Kd.R_form (Kd.S_R hs8) HP.out; subst e8_; have HS8 := aS (show Kd.S k43 43 w8 w7.heap.size (fun _ => True) (.slice (some ⟨b8, 0, none⟩) l0.length cap8) l0 from hs8); have HW := aS HB.out; have HB7 := aS (show Below w7.heap.size w7 w8 from hbl); have HK := aS RK.out; have EK7 := aS (q02 EK.out hbl); have RK7 := aS (q02 RK.out hbl); clear HB DK EK RK hbl hs8 hd0 hd1 hr0 hr1 hrf0 hrf1 ha0 ha1 ha2 ha3 ha4 ha5 ha6 ha7 ha8 ha9 ha10 ha11; have HB := HB7; have EK := EK7; have RK := RK7; clear HB7 EK7 RK7; obtain ⟨hr0, hr1, hrf0, hrf1⟩ := bk2 RK.out; obtain ⟨ha0, ha1, ha2, ha3, ha4, ha5, ha6, ha7, ha8, ha9, ha10, ha11⟩ := bk12 EK.out) | ((with_reducible refine q07 (N := 19) rfl ?_); refine box1 rfl (N := 19) rfl (cs := #[.slice (some ⟨b8, 0, none⟩) l0.length cap8, .bool q, .int .i64 0]) (t := 147) zh ?_; intro g w9 GK GG GS; have HI := aS (IsEd.start (w0 := w7) HS8.out GS.out GK.out (Nat.le_trans (Below.size HB.out) GG.out) GG.out); have GN := aS (show g ≠ gr from fun e_ => by have := q0a RK.out; have := GG.out; omega); have HB7 := aS (q01 HB.out GS.out); have EK7 := aS (q02 EK.out GS.out); have RK7 := aS (q02 RK.out GS.out); clear HB EK RK GK GS GG hr0 hr1 hrf0 hrf1 ha0 ha1 ha2 ha3 ha4 ha5 ha6 ha7 ha8 ha9 ha10 ha11; have HB := HB7; have EK := EK7; have RK := RK7; clear HB7 EK7 RK7; obtain ⟨hr0, hr1, hrf0, hrf1⟩ := bk2 RK.out; obtain ⟨ha0, ha1, ha2, ha3, ha4, ha5, ha6, ha7, ha8, ha9, ha10, ha11⟩ := bk12 EK.out))
   go_wp2_with (go_at_call 105; refine (ed_edit k HI.out HB.out e0 e1 e2 e3 e4 e5 e6 e7 A8 c8 l8 e9 e10 A11 c11 l11 (Kd.C_below HC8.out HW.out) HL8.out (Kd.C_below HC11.out HW.out) HL11.out HE2.out).mono ?_; rintro e w10 ⟨rfl, ⟨b9, c9, hI9⟩, hB9⟩; have HB9 := aS (q01 HW.out hB9); have HI9 := aS hI9; have RK9 := aS (q02 HK.out hB9); clear HI HB EK RK HS8 hr0 hr1 hrf0 hrf1 ha0 ha1 ha2 ha3 ha4 ha5 ha6 ha7 ha8 ha9 ha10 ha11 hI9 hB9; have HB := HB9; have HI := HI9; have RK := RK9; clear HB9 HI9 RK9; obtain ⟨hr0, hr1, hrf0, hrf1⟩ := bk2 RK.out; obtain ⟨hz0, hz1, hz2, -, -, -⟩ := bk3 HI.out.1)
   refine bodyPost_ret (q0y rfl _ _ gr 24 #[.slice none 0 0, .bool false] (0, 0) _ rfl (q0h (q0h RK.out 0 _) 1 _) Tryd.underlying24 rfl (by kernel_rfl)) rfl ?_
   exact ⟨_, rfl, Kd.S_nil _ _ _ _ _, q08 (q08 HB.out GR.out) GR.out⟩
  ·have h3 := (if_neg z).symm.trans h2
   clear h2
   obtain rfl : p3 = 0 := Classical.not_not.1 z
   clear z
   simp only [Option.some.injEq, Prod.mk.injEq] at h3
   obtain ⟨rfl, rfl, rfl, rfl⟩ := h3
   go_enter Tryd.func55, Tryd.ntmps55
   go_upto_region 1 with (first | ((with_reducible refine q07 (N := 2) rfl ?_); refine box1 rfl (N := 2) rfl (cs := #[.slice A0 l0.length c0, .bool q]) (t := 24) zh ?_; intro gd wd DK GD DS) | ((with_reducible refine q07 (N := 3) rfl ?_); refine box1 rfl (N := 3) rfl (cs := #[.int .i64 e0, .int .i64 e1, .int .i64 e2, .int .i64 e3, .string e4, .string e5, .int .i64 e6, .string e7, .slice A8 l8.length c8, .string e9, .int .i64 e10, .slice A11 l11.length c11]) (t := 87) zh ?_; intro ge we EK GE ES) | ((with_reducible refine q07 (N := 4) rfl ?_); refine box1 rfl (N := 4) rfl (cs := #[.slice none 0 0, .bool false]) (t := 24) zh ?_; intro gr wr RK GS RS))
   have HB := aS (q01 (q01 DS.out ES.out) RS.out)
   have GR := aS (show w.heap.size ≤ gr from Nat.le_trans (Below.size DS.out) (Nat.le_trans (Below.size ES.out) GS.out))
   have DK1 := aS (q02 (q02 DK.out ES.out) RS.out)
   have EK1 := aS (q02 EK.out RS.out)
   clear DK EK DS ES RS GS GD GE
   have DK := DK1
   have EK := EK1
   clear DK1 EK1
   obtain ⟨hd0, hd1, -, -⟩ := bk2 DK.out
   obtain ⟨hr0, hr1, hrf0, hrf1⟩ := bk2 RK.out
   obtain ⟨ha0, ha1, ha2, ha3, ha4, ha5, ha6, ha7, ha8, ha9, ha10, ha11⟩ := bk12 EK.out
   go_upto_region 5 with (first | (go_at_call 52; refine (dom_Check.calls k A0 c0 l0 q 0 _ (Kd.C_below HC.out HB.out) HL.out HE.out).mono ?_; rintro e w7 ⟨rfl, hbl⟩; have HB7 := aS (q01 HB.out hbl); have DK7 := aS (q02 DK.out hbl); have EK7 := aS (q02 EK.out hbl); have RK7 := aS (q02 RK.out hbl); clear HB DK EK RK hbl hd0 hd1 hr0 hr1 hrf0 hrf1 ha0 ha1 ha2 ha3 ha4 ha5 ha6 ha7 ha8 ha9 ha10 ha11; have HB := HB7; have DK := DK7; have EK := EK7; have RK := RK7; clear HB7 DK7 EK7 RK7; obtain ⟨hd0, hd1, -, -⟩ := bk2 DK.out; obtain ⟨hr0, hr1, hrf0, hrf1⟩ := bk2 RK.out; obtain ⟨ha0, ha1, ha2, ha3, ha4, ha5, ha6, ha7, ha8, ha9, ha10, ha11⟩ := bk12 EK.out) | (go_at_call 104; refine (ed_own A0 c0 l0 q _ (Kd.C_below HC.out HB.out) HL.out HF.out.1 HF.out.2).mono ?_; rintro e w8 ⟨v8, rfl, hs8, hbl⟩; obtain ⟨b8, cap8, e8_, -, -, -⟩ := Kd.R_form (Kd.S_R hs8) HP.out; subst e8_; have HS8 := aS (show Kd.S k43 43 w8 w7.heap.size (fun _ => True) (.slice (some ⟨b8, 0, none⟩) l0.length cap8) l0 from hs8); have HW := aS HB.out; have HB7 := aS (show Below w7.heap.size w7 w8 from hbl); have HK := aS RK.out; have EK7 := aS (q02 EK.out hbl); have RK7 := aS (q02 RK.out hbl); clear HB DK EK RK hbl hs8 hd0 hd1 hr0 hr1 hrf0 hrf1 ha0 ha1 ha2 ha3 ha4 ha5 ha6 ha7 ha8 ha9 ha10 ha11; have HB := HB7; have EK := EK7; have RK := RK7; clear HB7 EK7 RK7; obtain ⟨hr0, hr1, hrf0, hrf1⟩ := bk2 RK.out; obtain ⟨ha0, ha1, ha2, ha3, ha4, ha5, ha6, ha7, ha8, ha9, ha10, ha11⟩ := bk12 EK.out) | ((with_reducible refine q07 (N := 19) rfl ?_); refine box1 rfl (N := 19) rfl (cs := #[.slice (some ⟨b8, 0, none⟩) l0.length cap8, .bool q, .int .i64 0]) (t := 147) zh ?_; intro g w9 GK GG GS; have HI := aS (IsEd.start (w0 := w7) HS8.out GS.out GK.out (Nat.le_trans (Below.size HB.out) GG.out) GG.out); have GN := aS (show g ≠ gr from fun e_ => by have := q0a RK.out; have := GG.out; omega); have HB7 := aS (q01 HB.out GS.out); have EK7 := aS (q02 EK.out GS.out); have RK7 := aS (q02 RK.out GS.out); clear HB EK RK GK GS GG hr0 hr1 hrf0 hrf1 ha0 ha1 ha2 ha3 ha4 ha5 ha6 ha7 ha8 ha9 ha10 ha11; have HB := HB7; have EK := EK7; have RK := RK7; clear HB7 EK7 RK7; obtain ⟨hr0, hr1, hrf0, hrf1⟩ := bk2 RK.out; obtain ⟨ha0, ha1, ha2, ha3, ha4, ha5, ha6, ha7, ha8, ha9, ha10, ha11⟩ := bk12 EK.out))
   go_upto_region 8 with (go_at_call 105; refine (ed_edit k HI.out HB.out e0 e1 e2 e3 e4 e5 e6 e7 A8 c8 l8 e9 e10 A11 c11 l11 (Kd.C_below HC8.out HW.out) HL8.out (Kd.C_below HC11.out HW.out) HL11.out HE2.out).mono ?_; rintro e w10 ⟨rfl, ⟨b9, c9, hI9⟩, hB9⟩; have HB9 := aS (q01 HW.out hB9); have HI9 := aS hI9; have RK9 := aS (q02 HK.out hB9); clear HI HB EK RK HS8 hr0 hr1 hrf0 hrf1 ha0 ha1 ha2 ha3 ha4 ha5 ha6 ha7 ha8 ha9 ha10 ha11 hI9 hB9; have HB := HB9; have HI := HI9; have RK := RK9; clear HB9 HI9 RK9; obtain ⟨hr0, hr1, hrf0, hrf1⟩ := bk2 RK.out; obtain ⟨hz0, hz1, hz2, -, -, -⟩ := bk3 HI.out.1)
   have GL := aS (q0a HK.out)
   refine start_ (n := 11) (S := fun w' => w'.cell? ⟨g, 0, none⟩ = some (.slice (some ⟨b9, 0, none⟩) p1.length c9) ∧ w'.cell? ⟨g, 1, none⟩ = some (.bool q) ∧ w'.cell? ⟨g, 2, none⟩ = some (.int .i64 p2)) (ds := []) #[false, false, false, false, false, false, false, false, false, false, false] (by kernel_rfl) rfl rfl ⟨hz0, hz1, hz2⟩ (fun hHeld => ?_)
   refine q0n (i := 0) (N := some 27) (v := ?_) (a' := ?_) #[true, false, false, false, false, false, false, false, false, false, false] rfl rfl (by kernel_rfl) (fun _ _ _ h => h) (Or.inl ⟨by rfl, ?_⟩) ?_ ?_
   rotate_left
   ·intro w'
    go_simp
    with_reducible rfl
   rotate_left
   ·simp only [Act.put, s1, s2, s3, q0d, q0e]
    rfl
   refine q0n (i := 1) (N := some 28) (v := ?_) (a' := ?_) #[true, true, false, false, false, false, false, false, false, false, false] rfl rfl (by kernel_rfl) (fun _ _ _ h => h) (Or.inl ⟨by rfl, ?_⟩) ?_ ?_
   rotate_left
   ·intro w'
    go_simp
    with_reducible rfl
   rotate_left
   ·simp only [Act.put, s1, s2, s3, q0d, q0e]
    rfl
   refine q0n (i := 2) (N := some 29) (v := ?_) (a' := ?_) #[true, true, true, false, false, false, false, false, false, false, false] rfl rfl (by kernel_rfl) (fun _ _ _ h => h) (Or.inl ⟨by rfl, ?_⟩) ?_ ?_
   rotate_left
   ·intro w'
    go_simp
    with_reducible rfl
   rotate_left
   ·simp only [Act.put, s1, s2, s3, q0d, q0e]
    rfl
   refine q0n (i := 4) (N := some 31) (v := ?_) (a' := ?_) #[true, true, true, false, true, false, false, false, false, false, false] rfl rfl (by kernel_rfl) (fun _ _ _ h => h) (Or.inl ⟨by rfl, ?_⟩) ?_ ?_
   rotate_left
   ·intro w'
    go_simp
    with_reducible rfl
   rotate_left
   ·simp only [Act.put, s1, s2, s3, q0d, q0e]
    rfl
   refine q0n (i := 5) (N := some 32) (v := ?_) (a' := ?_) #[true, true, true, false, true, true, false, false, false, false, false] rfl rfl (by kernel_rfl) (fun _ _ _ h => h) (Or.inl ⟨by rfl, ?_⟩) ?_ ?_
   rotate_left
   ·intro w'
    go_simp
    with_reducible rfl
   rotate_left
   ·simp only [Act.put, s1, s2, s3, q0d, q0e]
    rfl
   refine q0n (i := 6) (N := some 33) (v := ?_) (a' := ?_) #[true, true, true, false, true, true, true, false, false, false, false] rfl rfl (by kernel_rfl) (fun _ _ _ h => h) (Or.inl ⟨by rfl, ?_⟩) ?_ ?_
   rotate_left
   ·intro w'
    go_simp
    with_reducible rfl
   rotate_left
   ·simp only [Act.put, s1, s2, s3, q0d, q0e]
    rfl
   refine take_ (i := 3) (N := some 30) (v := ?_) (a' := ?_) #[true, true, true, true, true, true, true, false, false, false, false] rfl rfl (by kernel_rfl) (fun _ _ _ h => h) (Or.inl ⟨by rfl, ?_⟩) hHeld ?_ ?_
   rotate_left
   ·rintro w' ⟨s0, s1, s2⟩
    go_simp
    with_reducible rfl
   rotate_left
   ·simp only [Act.put, s1, s2, s3, q0d, q0e]
    rfl
   refine take_ (i := 7) (N := some 34) (v := ?_) (a' := ?_) #[true, true, true, true, true, true, true, true, false, false, false] rfl rfl (by kernel_rfl) (fun _ _ _ h => h) (Or.inl ⟨by rfl, ?_⟩) hHeld ?_ ?_
   rotate_left
   ·rintro w' ⟨s0, s1, s2⟩
    go_simp
    with_reducible rfl
   rotate_left
   ·simp only [Act.put, s1, s2, s3, q0d, q0e]
    rfl
   refine one_ (i := 8) (N := none) #[true, true, true, true, true, true, true, true, true, false, false] rfl rfl (by kernel_rfl) (by decide) (fun K hK => ?_)
   refine skip_ (w1 := ?_) (by rfl) rfl ?_ ?_
   rotate_left
   ·go_simp
    rfl
   have hk8 := (Below.heap_setCell (w10.drew.setCell ⟨gr, 0, none⟩ (.slice (some ⟨b9, 0, none⟩) p1.length c9)) ⟨gr, 1, none⟩ (.bool q) g GN.out).trans ((Below.heap_setCell w10.drew ⟨gr, 0, none⟩ (.slice (some ⟨b9, 0, none⟩) p1.length c9) g GN.out).trans HI.out.1)
   obtain ⟨y0, y1, y2, -, -, -⟩ := bk3 hk8
   refine hK.out _ _ ⟨y0, y1, y2⟩ (fun hHeld => ?_)
   clear hK K
   refine q0n (i := 9) (N := some 5) (v := ?_) (a' := ?_) #[true, true, true, true, true, true, true, true, true, true, false] rfl rfl (by kernel_rfl) (fun _ _ _ h => h) (Or.inl ⟨by rfl, ?_⟩) ?_ ?_
   rotate_left
   ·intro w'
    go_simp
    with_reducible rfl
   rotate_left
   ·simp only [Act.put, s1, s2, s3, q0d, q0e]
    rfl
   refine q0n (i := 10) (N := some 6) (v := ?_) (a' := ?_) #[true, true, true, true, true, true, true, true, true, true, true] rfl rfl (by kernel_rfl) (fun _ _ _ h => h) (Or.inl ⟨by rfl, ?_⟩) ?_ ?_
   rotate_left
   ·intro w'
    go_simp
    with_reducible rfl
   rotate_left
   ·simp only [Act.put, s1, s2, s3, q0d, q0e]
    rfl
   refine done_ (by kernel_rfl) ?_
   all_goals
    go_wp2
    refine bodyPost_ret (q0y rfl _ _ gr 24 #[.slice (some ⟨b9, 0, none⟩) p1.length c9, .bool q] (0, 0) _ rfl (q0h (q0h (q2c RK.out) 0 _) 1 _) Tryd.underlying24 rfl (by kernel_rfl)) rfl ?_
    have hfar : ∀ k, (w7.heap.size ≤ k) → k ≠ gr := fun k hk e_ => by have := GL.out; omega
    exact ⟨_, rfl, Kd.S_mono (Kd.S_far (Kd.S_far (Kd.S_lower (Kd.S_mono (Kd.S_bound (Kd.S_below HI.out.2.2 (q0g (Below.refl _ _)))) (fun k hk => hk.2.1)) (Below.size HW.out)) hfar _) hfar _) (fun _ _ => trivial), q08 (q08 (q0g HB.out) GR.out) GR.out⟩
end Go.Proofs.YthjnallbbhnndaaDoor.XDe
