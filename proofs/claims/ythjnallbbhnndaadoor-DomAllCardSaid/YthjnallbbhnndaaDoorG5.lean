/- Written by this session's program (wip/xp) out of the translation as Lean prints it: for each Go function a Lean function and the proof that the code answers just so, on the conditions named in each statement. -/
import Derived.Test.YthjnallbbhnndaaDoorG4
import Derived.ProofKit
import Derived.SizedLaws
import Derived.Deep.Slices
namespace Go.Proofs.YthjnallbbhnndaaDoor.XDe
open Go.Proofs.YthjnallbbhnndaaDoor.Short Go.RowKit Go.Proofs.YthjnallbbhnndaaDoorW.PrintWords Go.Proofs.YthjnallbbhnndaaDoorW.PrintLast Go.Proofs.YthjnallbbhnndaaDoorW.PrintMore
attribute [local go_sem] q16 q14 q1g q1f q0s q0r q15 q13   -- for this text's walks alone
set_option linter.unusedVariables false
set_option linter.unusedSimpArgs false
def q0u (w0 W : World) (T g b c : Nat) (ns : List S43) (q : Bool) : Prop :=
 W.heap[g]? = some (.cells #[.slice (some ⟨b, 0, none⟩) ns.length c, .bool q] 24 (0, 0)) ∧ w0.heap.size ≤ g ∧ Kd.S k43 43 W w0.heap.size (fun k => k ≠ g ∧ k < T) (.slice (some ⟨b, 0, none⟩) ns.length c) ns
theorem q0u.ge {w0 W : World} {T g b c : Nat} {ns : List S43} {q : Bool} (h : q0u w0 W T g b c ns q) : w0.heap.size ≤ b ∧ b ≠ g ∧ b < T :=
 ⟨Kd.S_base h.2.2 b (by simp [Value.ownBlock]), ((Kd.S_R h.2.2).1 b (by simp [Value.ownBlock])).1, ((Kd.S_R h.2.2).1 b (by simp [Value.ownBlock])).2⟩
theorem q0u.below {w0 W W1 : World} {T g b c : Nat} {ns : List S43} {q : Bool} (h : q0u w0 W T g b c ns q) (hb : Below W.heap.size W W1) : q0u w0 W1 T g b c ns q :=
 ⟨(hb.block g (q0a h.1)).trans h.1, h.2.1, Kd.S_below h.2.2 hb⟩
theorem q0u.far {w0 W : World} {T g b c : Nat} {ns : List S43} {q : Bool} (h : q0u w0 W T g b c ns q) {p : Addr} (hp : T ≤ p.block) (hg : g < T) (u : Value) : q0u w0 (W.setCell p u) T g b c ns q :=
 ⟨(Below.heap_setCell W p u g (by omega)).trans h.1, h.2.1, Kd.S_far h.2.2 (fun k hk => by have := hk.2; omega) u⟩
theorem q0u.grown {w0 W W1 : World} {T g b c : Nat} {ns : List S43} {q : Bool} (h : q0u w0 W T g b c ns q) {row : Option Nat} (hg : W.grownBy W1 row) (hr : ∀ k, row = some k → T ≤ k) (hT : g < T) : q0u w0 W1 T g b c ns q :=
 ⟨(hg.block g (q0a h.1) (fun e => by have := hr g e.symm; omega)).trans h.1, h.2.1, Kd.S_step h.2.2 (fun k hk hlt => hg.block k hlt (fun e => by have := hr k e.symm; have := hk.2; omega))⟩
theorem q0u.elem {w0 W : World} {T g b c : Nat} {ns : List S43} {q : Bool} (h : q0u w0 W T g b c ns q) (i : Int) (h0 : 0 ≤ i) (h1 : i < (ns.length : Int)) :
 ∃ A2 c2 A5 c5, W.cell? ⟨b, i.toNat * 6, none⟩ = some (.int .i64 (q00 ns i).f0) ∧ W.cell? ⟨b, i.toNat * 6 + 1, none⟩ = some (.string (q00 ns i).f1) ∧ W.cell? ⟨b, i.toNat * 6 + 2, none⟩ = some (.slice A2 (q00 ns i).f2.length c2) ∧ W.cell? ⟨b, i.toNat * 6 + 3, none⟩ = some (.string (q00 ns i).f3) ∧ W.cell? ⟨b, i.toNat * 6 + 4, none⟩ = some (.int .i64 (q00 ns i).f4) ∧ W.cell? ⟨b, i.toNat * 6 + 5, none⟩ = some (.slice A5 (q00 ns i).f5.length c5) ∧
  Aside0 ((q00 ns i).f2.length ≤ c2) ∧ Aside0 (k122.C W A2 (q00 ns i).f2.length (q00 ns i).f2) ∧ Aside0 ((q00 ns i).f5.length ≤ c5) ∧ Aside0 ((Kd.int .i64).C W A5 (q00 ns i).f5.length (q00 ns i).f5) ∧ (∀ j, W.frozen? ⟨b, i.toNat * 6 + j, none⟩ = false) := by
 obtain ⟨oki, cs, _, hM, hc, hfz, _, _⟩ := Kd.S_elem h.2.2 z43 i h0 h1
 obtain ⟨v2, v5, rfl, g2, g5⟩ := q27 hM
 obtain ⟨A2, c2, rfl⟩ := Kd.R_slice g2
 obtain ⟨A5, c5, rfl⟩ := Kd.R_slice g5
 have r2 := Kd.R_reads' g2
 have r5 := Kd.R_reads' g5
 exact ⟨A2, c2, A5, c5, hc 0 _ rfl, hc 1 _ rfl, hc 2 _ rfl, hc 3 _ rfl, hc 4 _ rfl, hc 5 _ rfl, ⟨r2.2.1⟩, ⟨r2.2.2⟩, ⟨r5.2.1⟩, ⟨r5.2.2⟩, hfz⟩
theorem q0u.par {w0 W : World} {T g b c : Nat} {ns : List S43} {q : Bool} (h : q0u w0 W T g b c ns q) (i : Int) (h0 : 0 ≤ i) (h1 : i < (ns.length : Int)) (p : Int) :
 q0u w0 (W.setCell ⟨b, i.toNat * 6 + 4, none⟩ (.int .i64 p)) T g b c (ns.set i.toNat { q00 ns i with f4 := p }) q := by
 obtain ⟨oki, cs, _, hM0, hc, hfz, hok, hH⟩ := Kd.S_elem h.2.2 z43 i h0 h1
 obtain ⟨v2, v5, rfl, g2, g5⟩ := q27 hM0
 obtain ⟨s1, _⟩ := Kd.S_seg0 hH h0 h1 (seg := [.int .i64 p]) (j := 4) (show 4 + 1 ≤ 6 by decide) (q28 W w0.heap.size oki { q00 ns i with f4 := p } g2 g5) (fun _ hk => hk)
 have hne := h.ge.2.1
 refine ⟨(Below.heap_setCell W _ _ g (fun e => hne e.symm)).trans ?_, h.2.1, ?_⟩
 ·rw [List.length_set]; exact h.1
 ·rw [List.length_set]; exact s1
theorem q0u.whole {w0 W : World} {T T' g b c : Nat} {ns : List S43} {q : Bool} (h : q0u w0 W T g b c ns q) (hT : T ≤ T') (i : Int) (h0 : 0 ≤ i) (h1 : i < (ns.length : Int)) (x' : S43) (u2 u5 : Value)
 (h2 : W.cell? ⟨b, i.toNat * 6 + 2, none⟩ = some u2 ∧ x'.f2 = (q00 ns i).f2 ∨ k122.R 122 W w0.heap.size (fun k => T ≤ k ∧ k < T' ∧ k ≠ g) u2 x'.f2)
 (h5 : W.cell? ⟨b, i.toNat * 6 + 5, none⟩ = some u5 ∧ x'.f5 = (q00 ns i).f5 ∨ (Kd.int .i64).R 3 W w0.heap.size (fun k => T ≤ k ∧ k < T' ∧ k ≠ g) u5 x'.f5) :
 q0u w0 (W.setCells b (i.toNat * 6) [.int .i64 x'.f0, .string x'.f1, u2, .string x'.f3, .int .i64 x'.f4, u5]) T' g b c (ns.set i.toNat x') q := by
 obtain ⟨oki, cs, _, hM0, hc, hfz, hok, hH⟩ := Kd.S_elem h.2.2 z43 i h0 h1
 obtain ⟨v2, v5, rfl, g2, g5⟩ := q27 hM0
 have hb := h.ge
 have k2 : k122.R 122 W w0.heap.size (fun k => oki k ∨ (T ≤ k ∧ k < T' ∧ k ≠ g)) u2 x'.f2 := by
  rcases h2 with ⟨hcl, e⟩ | hr
  ·have := (hc 2 _ rfl).symm.trans hcl
   injection this with this
   rw [e, ← this]
   exact Kd.R_mono g2 (fun _ hk => .inl hk)
  ·exact Kd.R_mono hr (fun _ hk => .inr hk)
 have k5 : (Kd.int .i64).R 3 W w0.heap.size (fun k => oki k ∨ (T ≤ k ∧ k < T' ∧ k ≠ g)) u5 x'.f5 := by
  rcases h5 with ⟨hcl, e⟩ | hr
  ·have := (hc 5 _ rfl).symm.trans hcl
   injection this with this
   rw [e, ← this]
   exact Kd.R_mono g5 (fun _ hk => .inl hk)
  ·exact Kd.R_mono hr (fun _ hk => .inr hk)
 have hH2 : Kd.H k43 43 W w0.heap.size (fun k => (k ≠ g ∧ k < T') ∧ ¬ (T ≤ k ∧ k < T' ∧ k ≠ g)) (.slice (some ⟨b, 0, none⟩) ns.length c) ns i oki _ := Kd.H_mono hH (fun k hk => ⟨⟨hk.1, by have := hk.2; omega⟩, fun hh => by have := hk.2; omega⟩)
 obtain ⟨s1, sg⟩ := Kd.S_seg (ok := fun k => k ≠ g ∧ k < T') (okg := fun k => T ≤ k ∧ k < T' ∧ k ≠ g) hH2 h0 h1 (seg := [.int .i64 x'.f0, .string x'.f1, u2, .string x'.f3, .int .i64 x'.f4, u5]) (j := 0) (show 0 + 6 ≤ 6 by decide) (x' := x') (by exact q28 W w0.heap.size _ x' k2 k5) (fun _ hk => hk) (fun k hk => ⟨⟨hk.2.2, hk.2.1⟩, fun e => by have := hb.2.2; omega⟩)
 refine ⟨(sg.block g (q0a h.1) (fun e => by injection e with e; exact hb.2.1 e.symm)).trans ?_, h.2.1, ?_⟩
 ·rw [List.length_set]; exact h.1
 ·rw [List.length_set]; exact s1
theorem q0u.kids {w0 W : World} {T T' g b c : Nat} {ns : List S43} {q : Bool} (h : q0u w0 W T g b c ns q) (hT : T ≤ T') (i : Int) (h0 : 0 ≤ i) (h1 : i < (ns.length : Int)) (l' : List Int) (u5 : Value) (h5 : (Kd.int .i64).R 3 W w0.heap.size (fun k => T ≤ k ∧ k < T' ∧ k ≠ g) u5 l') :
 q0u w0 (W.setCell ⟨b, i.toNat * 6 + 5, none⟩ u5) T' g b c (ns.set i.toNat { q00 ns i with f5 := l' }) q := by
 obtain ⟨oki, cs, _, hM0, hc, hfz, hok, hH⟩ := Kd.S_elem h.2.2 z43 i h0 h1
 obtain ⟨v2, v5, rfl, g2, g5⟩ := q27 hM0
 have hb := h.ge
 have hH2 : Kd.H k43 43 W w0.heap.size (fun k => (k ≠ g ∧ k < T') ∧ ¬ (T ≤ k ∧ k < T' ∧ k ≠ g)) (.slice (some ⟨b, 0, none⟩) ns.length c) ns i oki _ := Kd.H_mono hH (fun k hk => ⟨⟨hk.1, by have := hk.2; omega⟩, fun hh => by have := hk.2; omega⟩)
 obtain ⟨s1, sg⟩ := Kd.S_seg (ok := fun k => k ≠ g ∧ k < T') (okg := fun k => T ≤ k ∧ k < T' ∧ k ≠ g) hH2 h0 h1 (seg := [u5]) (j := 5) (show 5 + 1 ≤ 6 by decide) (x' := { q00 ns i with f5 := l' }) (q28 W w0.heap.size _ { q00 ns i with f5 := l' } (Kd.R_mono g2 (fun _ hk => .inl hk)) (Kd.R_mono h5 (fun _ hk => .inr hk))) (fun _ hk => hk) (fun k hk => ⟨⟨hk.2.2, hk.2.1⟩, fun e => by have := hb.2.2; omega⟩)
 refine ⟨(Below.heap_setCell W _ _ g (fun e => hb.2.1 e.symm)).trans ?_, h.2.1, ?_⟩
 ·rw [List.length_set]; exact h.1
 ·rw [List.length_set]; exact s1
theorem below_c {W w7 : World} (h : Below W.drew.heap.size W.drew w7) : Below W.heap.size W w7 := q01 (q0g (Below.refl _ _)) h
theorem q0u.start {w0 w8 w9 : World} {g b c : Nat} {ns : List S43} {q : Bool} (hs : Kd.S k43 43 w8 w0.heap.size (fun _ => True) (.slice (some ⟨b, 0, none⟩) ns.length c) ns) (hb : Below w8.heap.size w8 w9) (h0 : w0.heap.size ≤ g) (hg : w8.heap.size ≤ g)
 (hk : w9.heap[g]? = some (.cells #[.slice none 0 0, .bool false] 24 (0, 0))) : q0u w0 ((w9.setCell ⟨g, 0, none⟩ (.slice (some ⟨b, 0, none⟩) ns.length c)).setCell ⟨g, 1, none⟩ (.bool q)) w9.heap.size g b c ns q :=
 have h1 : Kd.S k43 43 w9 w0.heap.size (fun k => k ≠ g ∧ k < w9.heap.size) (.slice (some ⟨b, 0, none⟩) ns.length c) ns := Kd.S_below (Kd.S_mono (Kd.S_bound hs) (fun k hk => ⟨fun e => by have := hk.2.2.1; omega, Nat.lt_of_lt_of_le hk.2.2.1 hb.size⟩)) hb
 ⟨(q0h (q0h hk 0 _) 1 _).trans rfl, h0, Kd.S_far (Kd.S_far h1 (fun _ hk => hk.1) _) (fun _ hk => hk.1) _⟩
theorem q0u.push {w0 W : World} {g b8 c8 : Nat} {v0 : Value} {ns : List S43} {p : S43} {q : Bool} (hs : Kd.S k43 43 W w0.heap.size (fun k => k ≠ g) (.slice (some ⟨b8, 0, none⟩) (ns.length + 1) c8) (ns ++ [p])) (hb : W.heap[g]? = some (.cells #[v0, .bool q] 24 (0, 0))) (hg : w0.heap.size ≤ g) :
 q0u w0 (W.setCell ⟨g, 0, none⟩ (.slice (some ⟨b8, 0, none⟩) (ns.length + 1) c8)) W.heap.size g b8 c8 (ns ++ [p]) q := by
 have hl : (ns ++ [p]).length = ns.length + 1 := by rw [List.length_append]; rfl
 refine ⟨?_, hg, ?_⟩
 ·rw [hl]; exact (q0h hb 0 _).trans rfl
 ·rw [hl]; exact Kd.S_far (Kd.S_mono (Kd.S_bound hs) (fun k hk => ⟨hk.1, hk.2.2.1⟩)) (fun _ hk => hk.1) _
def InEd (w0 W : World) (T g gx b c : Nat) (ns : List S43) (q : Bool) (n : Int) (cs : Array Value) (A2 : Option Addr) (c2 : Nat) (A5 : Option Addr) (c5 : Nat) : Prop :=
 q0u w0 W T g b c ns q ∧ W.heap[gx]? = some (.cells cs 43 (0, 0)) ∧ W.cell? ⟨b, n.toNat * 6 + 2, none⟩ = some (.slice A2 (q00 ns n).f2.length c2) ∧ W.cell? ⟨b, n.toNat * 6 + 5, none⟩ = some (.slice A5 (q00 ns n).f5.length c5) ∧ T ≤ gx ∧ g < T
section
variable {w0 W W1 : World} {T g gx b c : Nat} {ns : List S43} {q : Bool} {n : Int} {cs : Array Value} {A2 : Option Addr} {c2 : Nat} {A5 : Option Addr} {c5 : Nat}
theorem InEd.same (h : InEd w0 W T g gx b c ns q n cs A2 c2 A5 c5) (hI : q0u w0 W1 T g b c ns q) (hx : W1.heap[gx]? = W.heap[gx]?) (hb : W1.heap[b]? = W.heap[b]?) : InEd w0 W1 T g gx b c ns q n cs A2 c2 A5 c5 := by
 refine ⟨hI, hx.trans h.2.1, ?_, ?_, h.2.2.2.2⟩
 ·have := h.2.2.1
  unfold World.cell? at this ⊢
  rw [show W1.heap[(⟨b, n.toNat * 6 + 2, none⟩ : Addr).block]? = W.heap[(⟨b, n.toNat * 6 + 2, none⟩ : Addr).block]? from hb]
  exact this
 ·have := h.2.2.2.1
  unfold World.cell? at this ⊢
  rw [show W1.heap[(⟨b, n.toNat * 6 + 5, none⟩ : Addr).block]? = W.heap[(⟨b, n.toNat * 6 + 5, none⟩ : Addr).block]? from hb]
  exact this
theorem InEd.below (h : InEd w0 W T g gx b c ns q n cs A2 c2 A5 c5) (hb : Below W.heap.size W W1) : InEd w0 W1 T g gx b c ns q n cs A2 c2 A5 c5 :=
 h.same (q0u.below h.1 hb) (hb.block gx (q0a h.2.1)) (hb.block b (World.block_lt_of_cell? _ _ h.2.2.1))
theorem InEd.far (h : InEd w0 W T g gx b c ns q n cs A2 c2 A5 c5) {p : Addr} (hp : T ≤ p.block) (hx : p.block ≠ gx) (u : Value) : InEd w0 (W.setCell p u) T g gx b c ns q n cs A2 c2 A5 c5 :=
 h.same (q0u.far h.1 hp h.2.2.2.2.2 u) (Below.heap_setCell W p u gx (fun e => hx e.symm)) (Below.heap_setCell W p u b (fun e => by have := h.1.ge.2.2; omega))
theorem InEd.grown (h : InEd w0 W T g gx b c ns q n cs A2 c2 A5 c5) {row : Option Nat} (hg : W.grownBy W1 row) (hr : ∀ k, row = some k → T ≤ k ∧ k ≠ gx) : InEd w0 W1 T g gx b c ns q n cs A2 c2 A5 c5 :=
 h.same (q0u.grown h.1 hg (fun k hk => (hr k hk).1) h.2.2.2.2.2) (hg.block gx (q0a h.2.1) (fun e => (hr gx e.symm).2 rfl)) (hg.block b (World.block_lt_of_cell? _ _ h.2.2.1) (fun e => by have := (hr b e.symm).1; have := h.1.ge.2.2; omega))
theorem InEd.attrs (h : InEd w0 W T g gx b c ns q n cs A2 c2 A5 c5) (h0 : 0 ≤ n) (h1 : n < (ns.length : Int)) : Kd.C k122 W A2 (q00 ns n).f2.length (q00 ns n).f2 ∧ (q00 ns n).f2.length ≤ c2 := by
 obtain ⟨A2', c2', _, _, _, _, x2, _, _, _, l2, C2, _, _, _⟩ := q0u.elem h.1 n h0 h1
 have := x2.symm.trans h.2.2.1
 injection this with this
 injection this with e1 _ e2
 rw [← e1, ← e2]
 exact ⟨C2.out, l2.out⟩
theorem InEd.kids (h : InEd w0 W T g gx b c ns q n cs A2 c2 A5 c5) (h0 : 0 ≤ n) (h1 : n < (ns.length : Int)) : Kd.C (Kd.int .i64) W A5 (q00 ns n).f5.length (q00 ns n).f5 ∧ (q00 ns n).f5.length ≤ c5 := by
 obtain ⟨_, _, A5', c5', _, _, _, _, _, x5, _, _, l5, C5, _⟩ := q0u.elem h.1 n h0 h1
 have := x5.symm.trans h.2.2.2.1
 injection this with this
 injection this with e1 _ e2
 rw [← e1, ← e2]
 exact ⟨C5.out, l5.out⟩
end
theorem q0u.there {w0 W : World} {T g b c : Nat} {ns : List S43} {q : Bool} (h : q0u w0 W T g b c ns q) (i : Int) (h0 : 0 ≤ i) (h1 : i < (ns.length : Int)) : W.there b (i.toNat * 6) 6 := by
 obtain ⟨A2, c2, A5, c5, x0, x1, x2, x3, x4, x5, -, -, -, -, hfz⟩ := h.elem i h0 h1
 intro j hj
 refine ⟨?_, hfz j⟩
 have : j = 0 ∨ j = 1 ∨ j = 2 ∨ j = 3 ∨ j = 4 ∨ j = 5 := by omega
 rcases this with rfl | rfl | rfl | rfl | rfl | rfl
 ·rw [Nat.add_zero, x0]; rfl
 ·rw [x1]; rfl
 ·rw [x2]; rfl
 ·rw [x3]; rfl
 ·rw [x4]; rfl
 ·rw [x5]; rfl
theorem q1r {w0 : World} {b : Nat} (hb : w0.heap.size ≤ b) : ∀ (l : List Value) (o : Nat) {W : World}, Below w0.heap.size w0 W → Below w0.heap.size w0 (W.setCells b o l)
 | [], _, _, h => h
 | v :: r, o, W, h => q1r hb r (o + 1) (q08 (j := o) (v := v) h hb)
theorem InEd.putx {w0 W : World} {T g gx b c : Nat} {ns : List S43} {q : Bool} {n : Int} {cs cs' : Array Value} {A2 : Option Addr} {c2 : Nat} {A5 : Option Addr} {c5 : Nat} (h : InEd w0 W T g gx b c ns q n cs A2 c2 A5 c5) (j : Nat) (u : Value) (hcs : cs.setIfInBounds j u = cs') : InEd w0 (W.setCell ⟨gx, j, none⟩ u) T g gx b c ns q n cs' A2 c2 A5 c5 := by
 have hb : (W.setCell ⟨gx, j, none⟩ u).heap[b]? = W.heap[b]? := Below.heap_setCell W _ u b (fun e => by have := h.1.ge.2.2; have := h.2.2.2.2.1; have e : b = gx := e; omega)
 refine ⟨q0u.far h.1 h.2.2.2.2.1 h.2.2.2.2.2 u, (q0h h.2.1 j u).trans (by rw [hcs]), ?_, ?_, h.2.2.2.2⟩
 ·have := h.2.2.1
  unfold World.cell? at this ⊢
  rw [show (W.setCell ⟨gx, j, none⟩ u).heap[(⟨b, n.toNat * 6 + 2, none⟩ : Addr).block]? = W.heap[(⟨b, n.toNat * 6 + 2, none⟩ : Addr).block]? from hb]
  exact this
 ·have := h.2.2.2.1
  unfold World.cell? at this ⊢
  rw [show (W.setCell ⟨gx, j, none⟩ u).heap[(⟨b, n.toNat * 6 + 5, none⟩ : Addr).block]? = W.heap[(⟨b, n.toNat * 6 + 5, none⟩ : Addr).block]? from hb]
  exact this
theorem InEd.gxge {w0 W : World} {T g gx b c : Nat} {ns : List S43} {q : Bool} {n : Int} {cs : Array Value} {A2 : Option Addr} {c2 : Nat} {A5 : Option Addr} {c5 : Nat} (h : InEd w0 W T g gx b c ns q n cs A2 c2 A5 c5) : w0.heap.size ≤ gx :=
 Nat.le_trans h.1.2.1 (Nat.le_trans (Nat.le_of_lt h.2.2.2.2.2) h.2.2.2.2.1)
theorem below_of_wi {w0 wi W : World} (h : Below wi.heap.size wi W) (_ : Below w0.heap.size w0 W) : Below wi.heap.size wi W := h
theorem InEd.blk {w0 W : World} {T g gx b c : Nat} {ns : List S43} {q : Bool} {n : Int} {cs : Array Value} {A2 : Option Addr} {c2 : Nat} {A5 : Option Addr} {c5 : Nat} (h : InEd w0 W T g gx b c ns q n cs A2 c2 A5 c5) : W.heap[gx]? = some (.cells cs 43 (0, 0)) := h.2.1
theorem InEd.tg {w0 W : World} {T g gx b c : Nat} {ns : List S43} {q : Bool} {n : Int} {cs : Array Value} {A2 : Option Addr} {c2 : Nat} {A5 : Option Addr} {c5 : Nat} (h : InEd w0 W T g gx b c ns q n cs A2 c2 A5 c5) : T ≤ gx := h.2.2.2.2.1
theorem setCell_comm (w : World) (p q : Addr) (u v : Value) (h : p.block ≠ q.block) : (w.setCell p u).setCell q v = (w.setCell q v).setCell p u := by
 unfold World.setCell
 congr 1
 apply Array.ext_getElem?
 intro i
 simp only [Array.getElem?_modify]
 by_cases c : p.block = i
 ·by_cases d : q.block = i
  ·exact absurd (c.trans d.symm) h
  ·simp only [if_pos c, if_neg d]
 ·by_cases d : q.block = i
  ·simp only [if_neg c, if_pos d]
  ·simp only [if_neg c, if_neg d]
theorem rd_set_ne (ns : List S43) (a : Int) (x : S43) (i : Int) (ha : 0 ≤ a) (hi : 0 ≤ i) (hne : a ≠ i) : q00 (ns.set a.toNat x) i = q00 ns i := by
 simp [q00, List.getD, List.getElem?_set, show ¬ a.toNat = i.toNat by omega]
def edl0 (nm u : ByteArray) (d : Int) : Nat → Int → List S122 → List S122 → Bool → Option (List S122 × Bool)
 | 0, _, _, _, _ => none
 | k + 1, i, xs, o, st => if i < (xs.length : Int) then (if 0 ≤ i then
  (if (q03 xs i).f0.toList = nm.toList then (if d = 1 then (if o.length < 4398046511104 then edl0 nm u d k (wrap64 (i + 1)) xs (o ++ [⟨(q03 xs i).f0, u⟩]) true else none) else if d = 2 then edl0 nm u d k (wrap64 (i + 1)) xs o st else (if o.length < 4398046511104 then edl0 nm u d k (wrap64 (i + 1)) xs (o ++ [⟨(q03 xs i).f0, (q03 xs i).f1⟩]) st else none))
   else (if o.length < 4398046511104 then edl0 nm u d k (wrap64 (i + 1)) xs (o ++ [⟨(q03 xs i).f0, (q03 xs i).f1⟩]) st else none)) else none) else some (o, st)
def edMid (k : Nat) (o : List S43) (d n t2 bf : Int) (nm u : ByteArray) : Option (List S43) :=
 if 0 ≤ n ∧ n < (o.length : Int) then (edl0 nm u d k 0 (q00 o n).f2 [] false).bind fun p =>
  (if d = 1 then (if p.2 = true then some (o.set n.toNat { q00 o n with f2 := p.1 }) else if p.1.length < 4398046511104 then some (o.set n.toNat { q00 o n with f2 := p.1 ++ [⟨nm, u⟩] }) else none)
   else if d = 2 then some (o.set n.toNat { q00 o n with f2 := p.1 })
   else if d = 3 then some (o.set n.toNat { q00 o n with f3 := u })
   else if d = 5 then (if 0 ≤ t2 ∧ t2 < (o.length : Int) ∧ t2 ≠ n then
    ((if bf = -1 then some ((q00 o n).f5.length : Int) else clerestoryref1_placeIn.f k (q00 o n).f5 bf).bind fun i => if 0 ≤ i ∧ i ≤ ((q00 o n).f5.length : Int) ∧ (q00 o n).f5.length ≤ 1000000 then
     some ((o.set t2.toNat { q00 o t2 with f4 := n }).set n.toNat { q00 o n with f5 := (q00 o n).f5.take i.toNat ++ t2 :: (q00 o n).f5.drop i.toNat }) else none) else none)
   else if d = 6 then (if 0 ≤ (q00 o n).f4 ∧ (q00 o n).f4 < (o.length : Int) ∧ (q00 o n).f4 ≠ n then
    (clerestoryref1_placeIn.f k (q00 o (q00 o n).f4).f5 n).bind fun i => (clerestoryref1_without.f (q00 o (q00 o n).f4).f5 i).bind fun l =>
     some ((o.set (q00 o n).f4.toNat { q00 o (q00 o n).f4 with f5 := l }).set n.toNat { q00 o n with f4 := -1 }) else none)
   else some (o.set n.toNat (q00 o n))) else none
def q1t (k : Nat) (o : List S43) (e0 e1 e2 e3 : Int) (e4 e5 : ByteArray) (e6 : Int) (e7 : ByteArray) (l8 : List S122) (e9 : ByteArray) : Option (List S43 × Int) :=
 if e0 = 4 then (if o.length ≤ 1000000 ∧ l8.length < 4398046511104 then some (o ++ [⟨e6, e7, l8, e9, -1, []⟩], (o.length : Int)) else none) else (edMid k o e0 e1 e2 e3 e4 e5).bind fun p => some (p, 0)
def clerestoryref1_Edited.f (k : Nat) (l0 : List S43) (q : Bool) (e0 e1 e2 e3 : Int) (e4 e5 : ByteArray) (e6 : Int) (e7 : ByteArray) (l8 : List S122) (e9 : ByteArray) (e10 : Int) (l11 : List Int) : Option (List S43 × Bool × Int × Int) :=
 (clerestoryref1_EditErr.f k l0 q e0 e1 e2 e3 e4 e5 e6 e7 l8 e9 e10 l11).bind fun r => if r ≠ 0 then some ([], false, 0, r) else (clerestoryref1_copyDoc.f k l0 q).bind fun o => if 0 < o.1.length then
  (q1t k o.1 e0 e1 e2 e3 e4 e5 e6 e7 l8 e9).bind fun p => (clerestoryref1_DocErr.f k p.1 o.2).bind fun t => if t ≠ 0 then some ([], false, 0, 2) else some (p.1, o.2, p.2, 0) else none
set_option maxHeartbeats 16000000 in
set_option maxRecDepth 100000 in
theorem clerestoryref1_Edited.calls (k : Nat) (A0 : Option Addr) (c0 : Nat) (l0 : List S43) (q : Bool) (e0 e1 e2 e3 : Int) (e4 e5 : ByteArray) (e6 : Int) (e7 : ByteArray) (A8 : Option Addr) (c8 : Nat) (l8 : List S122) (e9 : ByteArray) (e10 : Int) (A11 : Option Addr) (c11 : Nat) (l11 : List Int) (r1 : List S43) (r2 : Bool) (r3 r4 : Int) (w : World) (hr0 : Kd.C k43 w A0 l0.length l0) (hc0 : l0.length ≤ c0) (hC8 : Kd.C k122 w A8 l8.length l8) (hL8 : l8.length ≤ c8) (hC11 : Kd.C (Kd.int .i64) w A11 l11.length l11) (hL11 : l11.length ≤ c11) (h : clerestoryref1_Edited.f k l0 q e0 e1 e2 e3 e4 e5 e6 e7 l8 e9 e10 l11 = some (r1, r2, r3, r4)) :
 Calls Tryd.prog 56 #[.agg #[.slice A0 l0.length c0, .bool q], .agg #[.int .i64 e0, .int .i64 e1, .int .i64 e2, .int .i64 e3, .string e4, .string e5, .int .i64 e6, .string e7, .slice A8 l8.length c8, .string e9, .int .i64 e10, .slice A11 l11.length c11]] w fun e w' => ∃ v0_ : Value, e = .returned (.tuple #[.agg #[v0_, .bool r2], .int .i64 r3, .int .i64 r4]) ∧ Kd.S k43 43 w' w.heap.size (fun _ => True) v0_ r1 ∧ Below w.heap.size w w' := by
 have hu24 := Tryd.underlying24
 have hu43 := Tryd.underlying43
 have hu87 := Tryd.underlying87
 have hu122 := Tryd.underlying122
 have HC := aS hr0
 have HL := aS hc0
 have HC8 := aS hC8
 have HL8 := aS hL8
 have HC11 := aS hC11
 have HL11 := aS hL11
 clear hr0 hc0 hC8 hL8 hC11 hL11
 unfold clerestoryref1_Edited.f at h
 obtain ⟨r, hr, h⟩ := Option.bind_eq_some_iff.1 h
 have HE := aS hr
 clear hr
 by_cases z : r ≠ 0
 ·have h2 := (if_pos z).symm.trans h
  clear h
  simp only [Option.some.injEq, Prod.mk.injEq] at h2
  obtain ⟨rfl, rfl, rfl, rfl⟩ := h2
  have z1 : (r != 0) = true := bne_iff_ne.mpr z
  clear z
  go_enter Tryd.func56, Tryd.ntmps56
  go_upto_region 1 with (first | ((with_reducible refine q07 (N := 2) rfl ?_); refine box1 rfl (N := 2) rfl (cs := #[.slice A0 l0.length c0, .bool q]) (t := 24) zh ?_; intro gd wd DK GD DS) | ((with_reducible refine q07 (N := 3) rfl ?_); refine box1 rfl (N := 3) rfl (cs := #[.int .i64 e0, .int .i64 e1, .int .i64 e2, .int .i64 e3, .string e4, .string e5, .int .i64 e6, .string e7, .slice A8 l8.length c8, .string e9, .int .i64 e10, .slice A11 l11.length c11]) (t := 87) zh ?_; intro ge we EK GE ES) | ((with_reducible refine q07 (N := 4) rfl ?_); refine box1 rfl (N := 4) rfl (cs := #[.slice none 0 0, .bool false]) (t := 24) zh ?_; intro gr wr RK GS RS))
  have HB := aS (q01 (q01 DS.out ES.out) RS.out)
  have GR := aS (show w.heap.size ≤ gr from Nat.le_trans (Below.size DS.out) (Nat.le_trans (Below.size ES.out) GS.out))
  have DK1 := aS (q02 (q02 DK.out ES.out) RS.out)
  have EK1 := aS (q02 EK.out RS.out)
  clear DK EK DS ES RS GS GD GE
  have DK := DK1
  have EK := EK1
  clear DK1 EK1
  obtain ⟨hd0, hd1, -, -⟩ := bk2 DK.out
  obtain ⟨hr0, hr1, hrf0, hrf1⟩ := bk2 RK.out
  obtain ⟨ha0, ha1, ha2, ha3, ha4, ha5, ha6, ha7, ha8, ha9, ha10, ha11⟩ := bk12 EK.out
  go_wp2_with (go_at_call 106; refine (clerestoryref1_EditErr.calls k A0 c0 l0 q e0 e1 e2 e3 e4 e5 e6 e7 A8 c8 l8 e9 e10 A11 c11 l11 r _ (Kd.C_below HC.out HB.out) HL.out (Kd.C_below HC8.out HB.out) HL8.out (Kd.C_below HC11.out HB.out) HL11.out HE.out).mono ?_; rintro e w7 ⟨rfl, hbl⟩; have HB7 := aS (q01 HB.out hbl); have DK7 := aS (q02 DK.out hbl); have EK7 := aS (q02 EK.out hbl); have RK7 := aS (q02 RK.out hbl); clear HB DK EK RK; clear hd0 hd1 hr0 hr1 hrf0 hrf1 ha0 ha1 ha2 ha3 ha4 ha5 ha6 ha7 ha8 ha9 ha10 ha11; have HB := HB7; have DK := DK7; have EK := EK7; have RK := RK7; clear HB7 DK7 EK7 RK7; obtain ⟨hd0, hd1, -, -⟩ := bk2 DK.out; obtain ⟨hr0, hr1, hrf0, hrf1⟩ := bk2 RK.out; obtain ⟨ha0, ha1, ha2, ha3, ha4, ha5, ha6, ha7, ha8, ha9, ha10, ha11⟩ := bk12 EK.out; clear hbl)
  refine bodyPost_ret (q0y rfl _ _ gr 24 #[.slice none 0 0, .bool false] (0, 0) _ rfl (q0h (q0h RK.out 0 _) 1 _) Tryd.underlying24 rfl (by kernel_rfl)) rfl ?_
  exact ⟨_, rfl, Kd.S_nil _ _ _ _ _, q08 (q08 HB.out GR.out) GR.out⟩
 ·have h2 := (if_neg z).symm.trans h
  clear h
  obtain rfl : r = 0 := Classical.not_not.1 z
  clear z
  obtain ⟨⟨o, q2⟩, ho, h2⟩ := Option.bind_eq_some_iff.1 h2
  have HO := aS ho
  clear ho
  refine iGp h2 ?_
  clear h2
  intro hp h2
  have HP : Aside0 (0 < o.length) := ⟨hp⟩
  clear hp
  obtain ⟨⟨p1, p2⟩, hn, h2⟩ := Option.bind_eq_some_iff.1 h2
  have HN : Aside0 (q1t k o e0 e1 e2 e3 e4 e5 e6 e7 l8 e9 = some (p1, p2)) := ⟨hn⟩
  clear hn
  obtain ⟨t, ht, h2⟩ := Option.bind_eq_some_iff.1 h2
  have HT : Aside0 (clerestoryref1_DocErr.f k p1 q2 = some t) := ⟨ht⟩
  have H2 : Aside0 ((if t ≠ 0 then some (([] : List S43), false, (0 : Int), (2 : Int)) else some (p1, q2, p2, 0)) = some (r1, r2, r3, r4)) := ⟨h2⟩
  clear ht h2
  go_enter Tryd.func56, Tryd.ntmps56
  go_upto_region 1 with (first | ((with_reducible refine q07 (N := 2) rfl ?_); refine box1 rfl (N := 2) rfl (cs := #[.slice A0 l0.length c0, .bool q]) (t := 24) zh ?_; intro gd wd DK GD DS) | ((with_reducible refine q07 (N := 3) rfl ?_); refine box1 rfl (N := 3) rfl (cs := #[.int .i64 e0, .int .i64 e1, .int .i64 e2, .int .i64 e3, .string e4, .string e5, .int .i64 e6, .string e7, .slice A8 l8.length c8, .string e9, .int .i64 e10, .slice A11 l11.length c11]) (t := 87) zh ?_; intro ge we EK GE ES) | ((with_reducible refine q07 (N := 4) rfl ?_); refine box1 rfl (N := 4) rfl (cs := #[.slice none 0 0, .bool false]) (t := 24) zh ?_; intro gr wr RK GS RS))
  have HB := aS (q01 (q01 DS.out ES.out) RS.out)
  have GR := aS (show w.heap.size ≤ gr from Nat.le_trans (Below.size DS.out) (Nat.le_trans (Below.size ES.out) GS.out))
  have DK1 := aS (q02 (q02 DK.out ES.out) RS.out)
  have EK1 := aS (q02 EK.out RS.out)
  clear DK EK DS ES RS GS GD GE
  have DK := DK1
  have EK := EK1
  clear DK1 EK1
  obtain ⟨hd0, hd1, -, -⟩ := bk2 DK.out
  obtain ⟨hr0, hr1, hrf0, hrf1⟩ := bk2 RK.out
  obtain ⟨ha0, ha1, ha2, ha3, ha4, ha5, ha6, ha7, ha8, ha9, ha10, ha11⟩ := bk12 EK.out
  go_upto_region 6 with (first | (go_at_call 106; refine (clerestoryref1_EditErr.calls k A0 c0 l0 q e0 e1 e2 e3 e4 e5 e6 e7 A8 c8 l8 e9 e10 A11 c11 l11 0 _ (Kd.C_below HC.out HB.out) HL.out (Kd.C_below HC8.out HB.out) HL8.out (Kd.C_below HC11.out HB.out) HL11.out HE.out).mono ?_; rintro e w7 ⟨rfl, hbl⟩; have HB7 := aS (q01 HB.out hbl); have DK7 := aS (q02 DK.out hbl); have EK7 := aS (q02 EK.out hbl); have RK7 := aS (q02 RK.out hbl); clear HB DK EK RK; clear hd0 hd1 hr0 hr1 hrf0 hrf1 ha0 ha1 ha2 ha3 ha4 ha5 ha6 ha7 ha8 ha9 ha10 ha11; have HB := HB7; have DK := DK7; have EK := EK7; have RK := RK7; clear HB7 DK7 EK7 RK7; obtain ⟨hd0, hd1, -, -⟩ := bk2 DK.out; obtain ⟨hr0, hr1, hrf0, hrf1⟩ := bk2 RK.out; obtain ⟨ha0, ha1, ha2, ha3, ha4, ha5, ha6, ha7, ha8, ha9, ha10, ha11⟩ := bk12 EK.out; clear hbl) | (go_at_call 107; refine (clerestoryref1_copyDoc.calls k A0 c0 l0 q o q2 _ (Kd.C_below HC.out HB.out) HL.out HO.out).mono ?_; rintro e w8 ⟨v8, rfl, hs8, hbl⟩; obtain ⟨b, cap, e8_, -, -, -⟩ := Kd.R_form (Kd.S_R hs8) HP.out; subst e8_; have HW := aS HB.out; have EK0 := aS EK.out; have RK0 := aS RK.out; have HS8 := aS (show Kd.S k43 43 w8 w7.heap.size (fun _ => True) (.slice (some ⟨b, 0, none⟩) o.length cap) o from hs8); have HB8 := aS (show Below w7.heap.size w7 w8 from hbl); clear HB DK EK RK hs8 hbl; clear hd0 hd1 hr0 hr1 hrf0 hrf1 ha0 ha1 ha2 ha3 ha4 ha5 ha6 ha7 ha8 ha9 ha10 ha11) | ((with_reducible refine q07 (N := 8) rfl ?_); refine box1 rfl (N := 8) rfl (cs := #[.slice none 0 0, .bool false]) (t := 24) zh ?_; intro g w9 GK GG GS; have GK1 := bk2 GK.out; obtain ⟨hg0, hg1, hgf0, hgf1⟩ := GK1))
  have HI := aS (q0u.start (q := q2) HS8.out GS.out (Nat.le_trans (Below.size HB8.out) GG.out) GG.out GK.out)
  have HB9 := aS (q08 (j := 1) (v := .bool q2) (q08 (j := 0) (v := .slice (some ⟨b, 0, none⟩) o.length cap) (q01 HB8.out GS.out) (Nat.le_trans (Below.size HB8.out) GG.out)) (Nat.le_trans (Below.size HB8.out) GG.out))
  have HG := aS (q0a GK.out)
  have HTA := aS (show w9.heap.size ≤ ((w9.setCell ⟨g, 0, none⟩ (.slice (some ⟨b, 0, none⟩) o.length cap)).setCell ⟨g, 1, none⟩ (.bool q2)).heap.size by simp)
  clear hg0 hg1 hgf0 hgf1 GK GG GS HB8 HS8
  generalize (w9.setCell ⟨g, 0, none⟩ (.slice (some ⟨b, 0, none⟩) o.length cap)).setCell ⟨g, 1, none⟩ (.bool q2) = wA at HI HB9 HTA ⊢
  generalize w9.heap.size = T at HI HG HTA
  have EK1 := aS (q02 EK0.out HB9.out)
  obtain ⟨ha0, ha1, ha2, ha3, ha4, ha5, ha6, ha7, ha8, ha9, ha10, ha11⟩ := bk12 EK1.out
  go_upto_if 28 with (fail)
  go_cut [9] (fun v9 wq => v9 = .int .i64 p2 ∧ Aside0 (∃ T b c, q0u w7 wq T g b c p1 q2) ∧ Aside0 (Below w7.heap.size w7 wq))
  case first =>
   clear HT H2
   have hn := HN.out
   unfold q1t at hn
   by_cases z4 : e0 = 4
   ·replace hn := (if_pos z4).symm.trans hn
    have y4 : (e0 == 4) = true := beq_iff_eq.mpr z4
    clear z4
    refine iGp hn ?_
    clear hn
    intro ⟨c1, c2⟩ hn
    have c1 := aS c1
    have c2 := aS c2
    simp only [Option.some.injEq, Prod.mk.injEq] at hn
    obtain ⟨rfl, rfl⟩ := hn
    obtain ⟨hz0, hz1, -, -⟩ := bk2 HI.out.1
    refine wp_cond (t := (e0 == 4)) rfl ?_
    rw [y4, if_pos rfl]
    go_upto_region 8 with (fail)
    clear hz1 ha0 ha1 ha2 ha3 ha4 ha5 ha10 ha11
    refine start_ (n := 21) (S := fun w' => w'.cell? ⟨g, 0, none⟩ = some (.slice (some ⟨b, 0, none⟩) o.length cap) ∧ w'.cell? ⟨ge, 6, none⟩ = some (.int .i64 e6) ∧ w'.cell? ⟨ge, 7, none⟩ = some (.string e7) ∧ w'.cell? ⟨ge, 8, none⟩ = some (.slice A8 l8.length c8) ∧ w'.cell? ⟨ge, 9, none⟩ = some (.string e9)) (ds := [18, 20]) #[false, false, false, false, false, false, false, false, false, false, false, false, false, false, false, false, false, false, false, false, false] (by kernel_rfl) rfl rfl ⟨hz0, ha6, ha7, ha8, ha9⟩ (fun hHeld => ?_)
    refine q0n (i := 0) (N := some 32) (v := ?_) (a' := ?_) #[true, false, false, false, false, false, false, false, false, false, false, false, false, false, false, false, false, false, false, false, false] rfl rfl (by kernel_rfl) (fun _ _ _ h => h) (Or.inl ⟨by rfl, ?_⟩) ?_ ?_
    rotate_left
    ·intro w'
     go_simp
     with_reducible rfl
    rotate_left
    ·simp only [Act.put, s1, s2, s3, q0d, q0e]
     rfl
    refine q0n (i := 2) (N := some 34) (v := ?_) (a' := ?_) #[true, false, true, false, false, false, false, false, false, false, false, false, false, false, false, false, false, false, false, false, false] rfl rfl (by kernel_rfl) (fun _ _ _ h => h) (Or.inl ⟨by rfl, ?_⟩) ?_ ?_
    rotate_left
    ·intro w'
     go_simp
     with_reducible rfl
    rotate_left
    ·simp only [Act.put, s1, s2, s3, q0d, q0e]
     rfl
    refine q0n (i := 3) (N := some 35) (v := ?_) (a' := ?_) #[true, false, true, true, false, false, false, false, false, false, false, false, false, false, false, false, false, false, false, false, false] rfl rfl (by kernel_rfl) (fun _ _ _ h => h) (Or.inl ⟨by rfl, ?_⟩) ?_ ?_
    rotate_left
    ·intro w'
     go_simp
     with_reducible rfl
    rotate_left
    ·simp only [Act.put, s1, s2, s3, q0d, q0e]
     rfl
    refine q0n (i := 5) (N := some 37) (v := ?_) (a' := ?_) #[true, false, true, true, false, true, false, false, false, false, false, false, false, false, false, false, false, false, false, false, false] rfl rfl (by kernel_rfl) (fun _ _ _ h => h) (Or.inl ⟨by rfl, ?_⟩) ?_ ?_
    rotate_left
    ·intro w'
     go_simp
     with_reducible rfl
    rotate_left
    ·simp only [Act.put, s1, s2, s3, q0d, q0e]
     rfl
    refine q0n (i := 6) (N := some 38) (v := ?_) (a' := ?_) #[true, false, true, true, false, true, true, false, false, false, false, false, false, false, false, false, false, false, false, false, false] rfl rfl (by kernel_rfl) (fun _ _ _ h => h) (Or.inl ⟨by rfl, ?_⟩) ?_ ?_
    rotate_left
    ·intro w'
     go_simp
     with_reducible rfl
    rotate_left
    ·simp only [Act.put, s1, s2, s3, q0d, q0e]
     rfl
    refine q0n (i := 9) (N := some 41) (v := ?_) (a' := ?_) #[true, false, true, true, false, true, true, false, false, true, false, false, false, false, false, false, false, false, false, false, false] rfl rfl (by kernel_rfl) (fun _ _ _ h => h) (Or.inl ⟨by rfl, ?_⟩) ?_ ?_
    rotate_left
    ·intro w'
     go_simp
     with_reducible rfl
    rotate_left
    ·simp only [Act.put, s1, s2, s3, q0d, q0e]
     rfl
    refine q0n (i := 10) (N := some 42) (v := ?_) (a' := ?_) #[true, false, true, true, false, true, true, false, false, true, true, false, false, false, false, false, false, false, false, false, false] rfl rfl (by kernel_rfl) (fun _ _ _ h => h) (Or.inl ⟨by rfl, ?_⟩) ?_ ?_
    rotate_left
    ·intro w'
     go_simp
     with_reducible rfl
    rotate_left
    ·simp only [Act.put, s1, s2, s3, q0d, q0e]
     rfl
    refine q0n (i := 13) (N := some 45) (v := ?_) (a' := ?_) #[true, false, true, true, false, true, true, false, false, true, true, false, false, true, false, false, false, false, false, false, false] rfl rfl (by kernel_rfl) (fun _ _ _ h => h) (Or.inl ⟨by rfl, ?_⟩) ?_ ?_
    rotate_left
    ·intro w'
     go_simp
     with_reducible rfl
    rotate_left
    ·simp only [Act.put, s1, s2, s3, q0d, q0e]
     rfl
    refine q0n (i := 14) (N := some 46) (v := ?_) (a' := ?_) #[true, false, true, true, false, true, true, false, false, true, true, false, false, true, true, false, false, false, false, false, false] rfl rfl (by kernel_rfl) (fun _ _ _ h => h) (Or.inl ⟨by rfl, ?_⟩) ?_ ?_
    rotate_left
    ·intro w'
     go_simp
     with_reducible rfl
    rotate_left
    ·simp only [Act.put, s1, s2, s3, q0d, q0e]
     rfl
    refine take_ (i := 1) (N := some 33) (v := ?_) (a' := ?_) #[true, true, true, true, false, true, true, false, false, true, true, false, false, true, true, false, false, false, false, false, false] rfl rfl (by kernel_rfl) (fun _ _ _ h => h) (Or.inl ⟨by rfl, ?_⟩) hHeld ?_ ?_
    rotate_left
    ·rintro w' ⟨s0, s1, s2, s3, s4⟩
     go_simp
     with_reducible rfl
    rotate_left
    ·simp only [Act.put, s1, s2, s3, q0d, q0e]
     rfl
    refine take_ (i := 4) (N := some 36) (v := ?_) (a' := ?_) #[true, true, true, true, true, true, true, false, false, true, true, false, false, true, true, false, false, false, false, false, false] rfl rfl (by kernel_rfl) (fun _ _ _ h => h) (Or.inl ⟨by rfl, ?_⟩) hHeld ?_ ?_
    rotate_left
    ·rintro w' ⟨s0, s1, s2, s3, s4⟩
     go_simp
     with_reducible rfl
    rotate_left
    ·simp only [Act.put, s1, s2, s3, q0d, q0e]
     rfl
    refine take_ (i := 7) (N := some 39) (v := ?_) (a' := ?_) #[true, true, true, true, true, true, true, true, false, true, true, false, false, true, true, false, false, false, false, false, false] rfl rfl (by kernel_rfl) (fun _ _ _ h => h) (Or.inl ⟨by rfl, ?_⟩) hHeld ?_ ?_
    rotate_left
    ·rintro w' ⟨s0, s1, s2, s3, s4⟩
     go_simp
     with_reducible rfl
    rotate_left
    ·simp only [Act.put, s1, s2, s3, q0d, q0e]
     rfl
    refine take_ (i := 11) (N := some 43) (v := ?_) (a' := ?_) #[true, true, true, true, true, true, true, true, false, true, true, true, false, true, true, false, false, false, false, false, false] rfl rfl (by kernel_rfl) (fun _ _ _ h => h) (Or.inl ⟨by rfl, ?_⟩) hHeld ?_ ?_
    rotate_left
    ·rintro w' ⟨s0, s1, s2, s3, s4⟩
     go_simp
     with_reducible rfl
    rotate_left
    ·simp only [Act.put, s1, s2, s3, q0d, q0e]
     rfl
    refine take_ (i := 15) (N := some 47) (v := ?_) (a' := ?_) #[true, true, true, true, true, true, true, true, false, true, true, true, false, true, true, true, false, false, false, false, false] rfl rfl (by kernel_rfl) (fun _ _ _ h => h) (Or.inl ⟨by rfl, ?_⟩) hHeld ?_ ?_
    rotate_left
    ·rintro w' ⟨s0, s1, s2, s3, s4⟩
     go_simp
     with_reducible rfl
    rotate_left
    ·simp only [Act.put, s1, s2, s3, q0d, q0e]
     rfl
    refine one_ (i := 8) (N := some 40) #[true, true, true, true, true, true, true, true, true, true, true, true, false, true, true, true, false, false, false, false, false] rfl rfl (by kernel_rfl) (by decide) (fun K hK => ?_)
    refine Kd.R_lit_step k122 _ 122 ?hg (N := 40) ?hd (xs := ([] : List S122)) (inner := []) (ok := fun _ => True) (okp := fun _ => True) ?hr ?hp (fun _ hk => hk) trivial (Below.refl _ _) (Nat.le_refl _) (by simp) ?_; (case hd => rfl); (case hg => rfl); (case hr => first | (go_simp; done) | (go_simp; rfl)); (case hp => exact (Reps.none _ _))
    intro v40 w12 ho12 hb12 hg_ hnew_
    clear hg_ hnew_
    have hbA := below_c hb12
    have HR12 : Aside0 (k122.R 122 w12 w7.heap.size (fun k => T ≤ k) v40 []) := ⟨Kd.R_mono (Kd.R_lower (Kd.R_bound ho12) (by have hsA_ : w7.heap.size ≤ wA.heap.size := Below.size HB9.out; exact hsA_)) (fun k hk => by have hk_ : wA.heap.size ≤ k := hk.2.1; exact Nat.le_trans HTA.out hk_)⟩
    have HI12 := aS (q0u.below HI.out hbA)
    have HB12 := aS (q01 HB9.out hbA)
    have HS12 := aS (Below.size hbA)
    clear ho12 hb12 hbA
    clear hz0 ha6 ha7 ha8 ha9
    obtain ⟨hz0, -, -, -⟩ := bk2 HI12.out.1
    obtain ⟨-, -, -, -, -, -, ha6, ha7, ha8, ha9, -, -⟩ := bk12 (q02 EK0.out HB12.out)
    refine hK.out _ _ ⟨hz0, ha6, ha7, ha8, ha9⟩ (fun hHeld => ?_)
    clear hK K
    refine q1n (a' := ?_) ?_ ?_
    rotate_left
    ·show Act.put _ (some 40) _ = _
     simp only [Act.put, s1, s2, s3, q0d, q0e]
     rfl
    refine one_ (i := 12) (N := some 44) #[true, true, true, true, true, true, true, true, true, true, true, true, true, true, true, true, false, false, false, false, false] rfl rfl (by kernel_rfl) (by decide) (fun K hK => ?_)
    refine Kd.R_append_rows_step k122 (w0 := w7) w7.heap.size (by rfl) (.tmp 40) (.tmp 43) 41 122 (.agg #[(.string ⟨#[]⟩), (.string ⟨#[]⟩)]) 32 rfl Tryd.underlying41 q1u rfl (by decide) (by omega) v40 ([] : List S122) l8 _ _ _ (fun k => T ≤ k) (fun _ => False) rfl rfl ?aO ?aR (fun _ _ h => h) (fun _ h => h.elim) ?aF ?aB ?aS ?aL ?_
    (case aR => exact Kd.C_below HC8.out (q01 HW.out HB12.out))
    (case aB => exact HB12.out)
    (case aF => exact fun k hk => Nat.le_trans HTA.out (Nat.le_trans HS12.out hk))
    (case aO => exact HR12.out)
    (case aS => exact Below.size HB12.out)
    (case aL => have := c2.out; simp only [List.length_nil, Nat.zero_add]; omega)
    intro v44 w13 ho hb hg hat
    rw [List.nil_append] at ho
    obtain ⟨A44, c44, e44_⟩ := Kd.R_slice ho
    subst e44_
    have HI13 := aS (q0u.grown HI12.out hg (fun k hk => HR12.out.1 k hk) HG.out)
    have HB13 := aS hb
    have HR13 := aS ho
    clear hb hg hat ho
    clear hz0 ha6 ha7 ha8 ha9
    obtain ⟨hz0, -, -, -⟩ := bk2 HI13.out.1
    obtain ⟨-, -, -, -, -, -, ha6, ha7, ha8, ha9, -, -⟩ := bk12 (q02 EK0.out HB13.out)
    refine hK.out _ _ ⟨hz0, ha6, ha7, ha8, ha9⟩ (fun hHeld => ?_)
    clear hK K
    refine q1n (a' := ?_) ?_ ?_
    rotate_left
    ·show Act.put _ (some 44) _ = _
     simp only [Act.put, s1, s2, s3, q0d, q0e]
     rfl
    refine q0n (i := 16) (N := some 48) (v := ?_) (a' := ?_) #[true, true, true, true, true, true, true, true, true, true, true, true, true, true, true, true, true, false, false, false, false] rfl rfl (by kernel_rfl) (fun _ _ _ h => h) (Or.inl ⟨by rfl, ?_⟩) ?_ ?_
    rotate_left
    ·intro w'
     go_simp
     with_reducible rfl
    rotate_left
    ·simp only [Act.put, s1, s2, s3, q0d, q0e]
     rfl
    refine one_ (i := 17) (N := some 49) #[true, true, true, true, true, true, true, true, true, true, true, true, true, true, true, true, true, true, false, false, false] rfl rfl (by kernel_rfl) (by decide) (fun K hK => ?_)
    refine value_ (w1 := ?_) (v := ?_) (by rfl) rfl ?_ ?_
    rotate_left 2
    ·go_simp
     constructor
     ·rfl
     ·rfl
    refine hK.out _ _ ⟨Lib.cell?_alloc_some _ hz0, Lib.cell?_alloc_some _ ha6, Lib.cell?_alloc_some _ ha7, Lib.cell?_alloc_some _ ha8, Lib.cell?_alloc_some _ ha9⟩ (fun hHeld => ?_)
    clear hK K
    refine q1n (a' := ?_) ?_ ?_
    rotate_left
    ·show Act.put _ (some 49) _ = _
     simp only [Act.put, s1, s2, s3, q0d, q0e]
     rfl
    refine last_ (i := 18) (N := some 50) #[true, true, true, true, true, true, true, true, true, true, true, true, true, true, true, true, true, true, true, false, false] rfl rfl (by kernel_rfl) (by decide) (fun K hK => ?_)
    refine Kd.S_append_step k43 (w0 := w7) (W := w13) w7.heap.size (by rfl) (.tmp 33) (.tmp 49) 22 43 (.agg #[.int .i64 0, .string (⟨#[]⟩ : ByteArray), .slice none 0 0, .string (⟨#[]⟩ : ByteArray), .int .i64 0, .slice none 0 0]) 96 rfl Tryd.underlying22 info43 rfl (by decide) (by decide) (.slice (some ⟨b, 0, none⟩) o.length cap) o (⟨e6, e7, l8, e9, -1, []⟩ : S43) [.int .i64 e6, .string e7, .slice A44 l8.length c44, .string e9, .int .i64 (-1), .slice none 0 0] (fun k => k ≠ g) (fun k => T ≤ k) rfl rfl ?aP ?aK ?aF ?aO HB13.out HB13.out.size ?aL ?_
    case aP => exact q28 _ _ _ (⟨e6, e7, l8, e9, -1, []⟩ : S43) HR13.out (Kd.R_nil _ _ _ _ _)
    case aK => exact fun k hk => ⟨(fun e_ => by have := HG.out; have h2_ : T ≤ k := hk; omega), (fun e_ => by have h1_ := HI13.out.ge.2.2; have h2_ : T ≤ k := hk; have h3_ : k = b := (by simpa [Value.ownBlock] using e_); omega)⟩
    case aF => exact fun k hk => (fun e_ => by have h1_ := q0a HI13.out.1; omega)
    case aO => exact Kd.S_mono HI13.out.2.2 (fun k hk => ⟨hk.1, Nat.not_le.2 hk.2⟩)
    case aL => (have := c1.out; omega)
    intro v15 w15 hs8 hbl8 hg8 hat8
    obtain ⟨b8, cap8, e8_, -, -, -⟩ := Kd.R_form (Kd.S_R hs8) (by simp)
    rw [show (o ++ [(⟨e6, e7, l8, e9, -1, []⟩ : S43)]).length = o.length + 1 from by rw [List.length_append]; rfl] at e8_
    subst e8_
    have hk8 := (hg8.block g (q0a HI13.out.1) (fun e_ => HI13.out.ge.2.1 (by simpa [Value.ownBlock] using e_.symm))).trans HI13.out.1
    have HS8 := aS hs8
    have HB8 := aS hbl8
    have HK8 := aS hk8
    clear hs8 hbl8 hg8 hat8 hk8 hz0 ha6 ha7 ha8 ha9
    obtain ⟨hz0, hz1, hzf0, hzf1⟩ := bk2 HK8.out
    refine hK.out _ _ ?_
    clear hK K
    refine q1n (a' := ?_) ?_ ?_
    rotate_left
    ·show Act.put _ (some 50) _ = _
     simp only [Act.put, s1, s2, s3, q0d, q0e]
     rfl
    refine q0n (i := 19) (N := some 51) (v := ?_) (a' := ?_) #[true, true, true, true, true, true, true, true, true, true, true, true, true, true, true, true, true, true, true, true, false] rfl rfl (by kernel_rfl) (fun _ _ _ h => h) (Or.inl ⟨by rfl, ?_⟩) ?_ ?_
    rotate_left
    ·intro w'
     go_simp
     with_reducible rfl
    rotate_left
    ·simp only [Act.put, s1, s2, s3, q0d, q0e]
     rfl
    refine last_ (i := 20) (N := none) #[true, true, true, true, true, true, true, true, true, true, true, true, true, true, true, true, true, true, true, true, true] rfl rfl (by kernel_rfl) (by decide) (fun K hK => ?_)
    refine skip_ (w1 := ?_) (by rfl) rfl ?_ ?_
    rotate_left
    ·go_simp
     rfl
    refine hK.out _ _ ?_
    clear hK K
    refine done_ (by kernel_rfl) ?_
    all_goals
     go_wp2
     go_meet
     exact ⟨rfl, ⟨⟨_, _, _, q0u.push HS8.out HK8.out HI.out.2.1⟩⟩, ⟨q08 HB8.out HI.out.2.1⟩⟩
   ·replace hn := (if_neg z4).symm.trans hn
    have y4 : (e0 == 4) = false := beq_eq_false_iff_ne.mpr z4
    clear z4
    obtain ⟨m, hm, hn⟩ := Option.bind_eq_some_iff.1 hn
    simp only [Option.some.injEq, Prod.mk.injEq] at hn
    obtain ⟨rfl, rfl⟩ := hn
    unfold edMid at hm
    refine iGp hm ?_
    clear hm
    intro ⟨n0, n1⟩ hm
    obtain ⟨⟨L, F⟩, hl, hm⟩ := Option.bind_eq_some_iff.1 hm
    have HLo : Aside0 (edl0 e4 e5 e0 k 0 (q00 o e1).f2 [] false = some (L, F)) := ⟨hl⟩
    have HM := aS hm
    have HN0 := aS n0
    have HN1 := aS n1
    clear hl hm HN
    obtain ⟨hz0, hz1, -, -⟩ := bk2 HI.out.1
    obtain ⟨A2, c2, A5, c5, x0, x1, x2, x3, x4, x5, -, -, -, -, -⟩ := q0u.elem HI.out e1 n0 n1
    have p0 := eq_true n0
    have p1 := eq_true n1
    clear n0 n1
    refine wp_cond (t := (e0 == 4)) rfl ?_
    rw [y4, if_neg Bool.false_ne_true]
    go_upto_region 10 with ((with_reducible refine q07 (N := 10) rfl ?_); refine box1 rfl (N := 10) rfl (cs := #[.int .i64 0, .string (⟨#[]⟩ : ByteArray), .slice none 0 0, .string (⟨#[]⟩ : ByteArray), .int .i64 0, .slice none 0 0]) (t := 43) zh ?_; intro gx wx XK GX XS; have hxx_ := bk6 XK.out; obtain ⟨hx0, hx1, hx2, hx3, hx4, hx5, hxf0, hxf1, hxf2, hxf3, hxf4, hxf5⟩ := hxx_)
    have HSX := aS (ed_sixo (.int .i64 (q00 o e1).f0) (.string (q00 o e1).f1) (.slice A2 (q00 o e1).f2.length c2) (.string (q00 o e1).f3) (.int .i64 (q00 o e1).f4) (.slice A5 (q00 o e1).f5.length c5) XS.out GX.out XK.out)
    have HIE : Aside0 (InEd w7 ((((((wx.setCell ⟨gx, 0, none⟩ (.int .i64 (q00 o e1).f0)).setCell ⟨gx, 1, none⟩ (.string (q00 o e1).f1)).setCell ⟨gx, 2, none⟩ (.slice A2 (q00 o e1).f2.length c2)).setCell ⟨gx, 3, none⟩ (.string (q00 o e1).f3)).setCell ⟨gx, 4, none⟩ (.int .i64 (q00 o e1).f4)).setCell ⟨gx, 5, none⟩ (.slice A5 (q00 o e1).f5.length c5)) T g gx b cap o q2 e1 #[.int .i64 (q00 o e1).f0, .string (q00 o e1).f1, .slice A2 (q00 o e1).f2.length c2, .string (q00 o e1).f3, .int .i64 (q00 o e1).f4, .slice A5 (q00 o e1).f5.length c5] A2 c2 A5 c5) := ⟨⟨q0u.below HI.out HSX.out.1, HSX.out.2, (HSX.out.1.cell (World.block_lt_of_cell? _ _ x2)).trans x2, (HSX.out.1.cell (World.block_lt_of_cell? _ _ x5)).trans x5, Nat.le_trans HTA.out GX.out, HG.out⟩⟩
    have HBX := aS (q01 HB9.out HSX.out.1)
    clear hx0 hx1 hx2 hx3 hx4 hx5 hxf0 hxf1 hxf2 hxf3 hxf4 hxf5 XK XS HSX hz0 hz1 x0 x1 x2 x3 x4 x5 ha0 ha1 ha2 ha3 ha4 ha5 ha6 ha7 ha8 ha9 ha10 ha11 EK1
    generalize ((((((wx.setCell ⟨gx, 0, none⟩ (.int .i64 (q00 o e1).f0)).setCell ⟨gx, 1, none⟩ (.string (q00 o e1).f1)).setCell ⟨gx, 2, none⟩ (.slice A2 (q00 o e1).f2.length c2)).setCell ⟨gx, 3, none⟩ (.string (q00 o e1).f3)).setCell ⟨gx, 4, none⟩ (.int .i64 (q00 o e1).f4)).setCell ⟨gx, 5, none⟩ (.slice A5 (q00 o e1).f5.length c5)) = wB at HIE HBX ⊢
    have HR0 : Aside0 (k122.R 122 wB w7.heap.size (fun k => T ≤ k ∧ k ≠ gx) (.slice none 0 0) []) := ⟨Kd.R_nil _ _ _ _ _⟩
    go_wp2
    go_loopg [13, 11, 12] k (fun kq v13 v11 v12 w' => ∃ (i : Int) (ll : List S122) (st : Bool), v13 = .int .i64 i ∧ v12 = .bool st ∧ Aside0 (edl0 e4 e5 e0 kq i (q00 o e1).f2 ll st = some (L, F)) ∧ Aside0 (kq ≤ k) ∧ Aside0 (InEd w7 w' T g gx b cap o q2 e1 #[.int .i64 (q00 o e1).f0, .string (q00 o e1).f1, .slice A2 (q00 o e1).f2.length c2, .string (q00 o e1).f3, .int .i64 (q00 o e1).f4, .slice A5 (q00 o e1).f5.length c5] A2 c2 A5 c5) ∧ Aside0 (k122.R 122 w' w7.heap.size (fun k => T ≤ k ∧ k ≠ gx) v11 ll) ∧ Aside0 (Below w7.heap.size w7 w'))
    case atStart => exact ⟨0, [], false, rfl, rfl, HLo, ⟨Nat.le_refl _⟩, HIE, HR0, HBX⟩
    case round =>
     clear HR0 HIE HBX HLo
     obtain ⟨i, ll, st, rfl, rfl, HA, HK1, HIE1, HR, HB1⟩ := hrel
     cases gk with
     | zero => exact absurd HA.out (by simp [edl0])
     | succ k1 =>
      have H := HA.out
      clear HA
      unfold edl0 at H
      have hqq_ := bk6 HIE1.out.2.1
      obtain ⟨hq0, hq1, hq2, hq3, hq4, hq5, hqf0, hqf1, hqf2, hqf3, hqf4, hqf5⟩ := hqq_
      obtain ⟨ha0, ha1, ha2, ha3, ha4, ha5, ha6, ha7, ha8, ha9, ha10, ha11⟩ := bk12 (q02 EK0.out HB1.out)
      refine iG H ?p10 ?n10 <;> clear H
      case' p10 => intro c10 H; have c10b : decide (i < ((q00 o e1).f2.length : Int)) = true := decide_eq_true c10; refine iGp H ?_; clear H; intro c11 H
      case' n10 => intro c10 H
      case p10 =>
       have hCC := HIE1.out.attrs HN0.out HN1.out
       obtain ⟨ad, e_, y0, y1⟩ := at_T122 hCC.1 i c11 c10
       clear hCC
       have c11b : decide (0 ≤ i) = true := decide_eq_true c11
       replace c10 := eq_true c10
       replace c11 := eq_true c11
       have HX1 := aS (q0a HIE1.out.2.1)
       have HT1 := aS (show T ≤ wr.heap.size from Nat.le_of_lt (Nat.lt_of_le_of_lt HIE1.out.2.2.2.2.1 HX1.out))
       subst e_
       have q1 : ∀ (x y : ByteArray), x.toList = y.toList → (x.toList == y.toList) = true := fun x y h => beq_iff_eq.mpr h
       by_cases cn : (q03 (q00 o e1).f2 i).f0.toList = e4.toList
       ·rw [if_pos cn] at H
        have cnb : ((q03 (q00 o e1).f2 i).f0.toList == e4.toList) = true := beq_iff_eq.mpr cn
        have cnb2 : ((q03 (q00 o e1).f2 i).f0.toList != e4.toList) = false := bne_eq_false_iff_eq.mpr cn
        clear cn
        by_cases d1 : e0 = 1
        ·rw [if_pos d1] at H
         have d1b : (e0 == 1) = true := beq_iff_eq.mpr d1
         have d2b : (e0 != 2) = true := bne_iff_ne.mpr (by omega)
         clear d1
         as_aux_lemma =>
          go_upto_region 16 with ((with_reducible refine q07 (N := 14) rfl ?_); refine box1 rfl (N := 14) rfl (cs := #[.string (⟨#[]⟩ : ByteArray), .string (⟨#[]⟩ : ByteArray)]) (t := 122) zh ?_; intro ga wa AK GA AS; obtain ⟨hy0, hy1, hyf0, hyf1⟩ := bk2 AK.out)
          have HI2 := aS (InEd.far (InEd.far (InEd.below HIE1.out AS.out) (p := ⟨ga, 0, none⟩) (Nat.le_trans HT1.out GA.out) (fun e_ => by have h1_ := HX1.out; have h2_ := GA.out; have h3_ : ga = gx := e_; omega) (.string (q03 (q00 o e1).f2 i).f0)) (p := ⟨ga, 1, none⟩) (Nat.le_trans HT1.out GA.out) (fun e_ => by have h1_ := HX1.out; have h2_ := GA.out; have h3_ : ga = gx := e_; omega) (.string (q03 (q00 o e1).f2 i).f1))
          have HR2 := aS (Kd.R_mono (Kd.R_far (Kd.R_far (Kd.R_below (Kd.R_bound HR.out) AS.out) (p := ⟨ga, 0, none⟩) (fun k hk e_ => by have h1_ := hk.2.2.1; have h2_ := GA.out; have h3_ : k = ga := e_; omega) (.string (q03 (q00 o e1).f2 i).f0)) (p := ⟨ga, 1, none⟩) (fun k hk e_ => by have h1_ := hk.2.2.1; have h2_ := GA.out; have h3_ : k = ga := e_; omega) (.string (q03 (q00 o e1).f2 i).f1)) (fun k hk => hk.1))
          have AK2 := aS (q0h (q0h AK.out 0 (.string (q03 (q00 o e1).f2 i).f0)) 1 (.string (q03 (q00 o e1).f2 i).f1))
          have GB := aS (show w7.heap.size ≤ ga from Nat.le_trans (Below.size HB1.out) GA.out)
          have HB2 := aS (q08 (j := 1) (v := .string (q03 (q00 o e1).f2 i).f1) (q08 (j := 0) (v := .string (q03 (q00 o e1).f2 i).f0) (q01 HB1.out AS.out) GB.out) GB.out)
          have HX2 := aS (show gx < ((wa.setCell ⟨ga, 0, none⟩ (.string (q03 (q00 o e1).f2 i).f0)).setCell ⟨ga, 1, none⟩ (.string (q03 (q00 o e1).f2 i).f1)).heap.size from q0a HI2.out.2.1)
          have GX2 := aS (show T ≤ ga ∧ ga ≠ gx from ⟨Nat.le_trans HT1.out GA.out, fun e_ => by have h1_ := HX1.out; have h2_ := GA.out; omega⟩)
          have GK2 := aS (show ∀ k, k < wr.heap.size → k ≠ ga from fun k hk e_ => by have h2_ := GA.out; omega)
          have HT2 := aS (show T ≤ ((wa.setCell ⟨ga, 0, none⟩ (.string (q03 (q00 o e1).f2 i).f0)).setCell ⟨ga, 1, none⟩ (.string (q03 (q00 o e1).f2 i).f1)).heap.size from Nat.le_trans HT1.out (by have h1_ := Below.size AS.out; simpa using h1_))
          have HL2 := aS (Kd.R_mono (Kd.R_far (Kd.R_far (Kd.R_below (Kd.R_bound HR.out) AS.out) (p := ⟨ga, 0, none⟩) (fun k hk e_ => by have h1_ := hk.2.2.1; have h2_ := GA.out; have h3_ : k = ga := e_; omega) (.string (q03 (q00 o e1).f2 i).f0)) (p := ⟨ga, 1, none⟩) (fun k hk e_ => by have h1_ := hk.2.2.1; have h2_ := GA.out; have h3_ : k = ga := e_; omega) (.string (q03 (q00 o e1).f2 i).f1)) (ok' := fun k => (T ≤ k ∧ k ≠ gx) ∧ k ≠ ga) (fun k hk => ⟨hk.1, GK2.out k hk.2.2.1⟩))
          clear HIE1 HR HB1 AK GA AS hy0 hy1 hyf0 hyf1 hq0 hq1 hq2 hq3 hq4 hq5 hqf0 hqf1 hqf2 hqf3 hqf4 hqf5 y0 y1 ha0 ha1 ha2 ha3 ha4 ha5 ha6 ha7 ha8 ha9 ha10 ha11 HX1 HT1
          generalize (wa.setCell ⟨ga, 0, none⟩ (.string (q03 (q00 o e1).f2 i).f0)).setCell ⟨ga, 1, none⟩ (.string (q03 (q00 o e1).f2 i).f1) = wb at HI2 HR2 AK2 HB2 HX2 HT2 HL2 ⊢
          have AK3 := AK2.out
          obtain ⟨hy0, hy1, hyf0, hyf1⟩ := bk2 (show wb.heap[ga]? = some (.cells #[.string (q03 (q00 o e1).f2 i).f0, .string (q03 (q00 o e1).f2 i).f1] 122 (0, 0)) from AK3)
          clear AK3
          obtain ⟨ha0, ha1, ha2, ha3, ha4, ha5, ha6, ha7, ha8, ha9, ha10, ha11⟩ := bk12 (q02 EK0.out HB2.out)
          have HI3 := aS (InEd.far HI2.out (p := ⟨ga, 1, none⟩) GX2.out.1 GX2.out.2 (.string e5))
          have HR3 := aS (Kd.R_mono (Kd.R_far HL2.out (p := ⟨ga, 1, none⟩) (fun k hk => hk.2) (.string e5)) (fun k hk => hk.1))
          have HB3 := aS (q08 (j := 1) (v := .string e5) HB2.out GB.out)
          have HX3 := aS (q0a HI3.out.2.1)
          have HT3 := aS (show T ≤ (wb.setCell ⟨ga, 1, none⟩ (.string e5)).heap.size by have h_ := HT2.out; simpa using h_)
          have AK3 := (show (wb.setCell ⟨ga, 1, none⟩ (.string e5)).heap[ga]? = some (.cells #[.string (q03 (q00 o e1).f2 i).f0, .string e5] 122 (0, 0)) from q0h AK2.out 1 (.string e5))
          obtain ⟨hv0, hv1, hvf0, hvf1⟩ := bk2 AK3
          clear AK3
          obtain ⟨hb0, hb1, hb2, hb3, hb4, hb5, hb6, hb7, hb8, hb9, hb10, hb11⟩ := bk12 (q02 EK0.out HB3.out)
          by_cases cl : ll.length < 4398046511104
          ·rw [if_pos cl] at H
           have LM := aS cl
           clear cl
           go_wp2_with ((with_reducible refine q1m (b := .append) (xs := #[.tmp 93, .tmp 95]) rfl ?_); at_builtin; go_must (refine Kd.R_append k122 (w0 := w7) w7.heap.size rfl (.tmp 93) (.tmp 95) 41 122 (.agg #[(.string ⟨#[]⟩), (.string ⟨#[]⟩)]) 32 rfl Tryd.underlying41 q1u rfl (by decide) (by omega) u11 ll (⟨(q03 (q00 o e1).f2 i).f0, e5⟩ : S122) [.string (q03 (q00 o e1).f2 i).f0, .string e5] (fun k => T ≤ k ∧ k ≠ gx) (fun _ => False) rfl (by first | rfl | (simp; done) | (simp [Act.eval]; done)) ?aP (fun _ hk => hk.elim) ?aF ?aO ?aB ?aS ?aL ?_; (case aP => exact k122_mkM _ _ _ (⟨(q03 (q00 o e1).f2 i).f0, e5⟩ : S122)); (case aB => exact (z8 HB3.out)); (case aF => exact fun k hk => (by have h1_ := HT3.out; have h2_ := HX3.out; have h3_ := hk; (try simp at h3_); exact ⟨by omega, by omega⟩)); (case aO => exact (by repeat (first | exact HR3.out | apply rA | apply rN | apply rD))); (case aS => exact (q0c (z8 HB3.out))); (case aL => have := LM.out; omega); intro v20 w20 ho hb hg hat; have HB4 := aS hb; have HR4 := aS ho; have HI4 := aS (InEd.grown (by repeat (first | exact HI3.out | refine InEd.below ?_ (q0i (Below.refl _ _) _) | refine InEd.below ?_ (q0g (Below.refl _ _)))) hg (fun k hk => HR3.out.1 k hk)); clear ho hb hg hat))
           go_roundg k1
           case measure => have := HK1.out; omega
           case rel => exact ⟨_, _, _, rfl, rfl, ⟨H⟩, ⟨by have := HK1.out; omega⟩, HI4, HR4, HB4⟩
          ·rw [if_neg cl] at H
           exact absurd H (by simp)
        ·rw [if_neg d1] at H
         have d1b : (e0 == 1) = false := beq_eq_false_iff_ne.mpr d1
         clear d1
         by_cases d2 : e0 = 2
         ·rw [if_pos d2] at H
          have d2b : (e0 != 2) = false := bne_eq_false_iff_eq.mpr d2
          clear d2
          as_aux_lemma =>
           go_upto_region 16 with ((with_reducible refine q07 (N := 14) rfl ?_); refine box1 rfl (N := 14) rfl (cs := #[.string (⟨#[]⟩ : ByteArray), .string (⟨#[]⟩ : ByteArray)]) (t := 122) zh ?_; intro ga wa AK GA AS; obtain ⟨hy0, hy1, hyf0, hyf1⟩ := bk2 AK.out)
           have HI2 := aS (InEd.far (InEd.far (InEd.below HIE1.out AS.out) (p := ⟨ga, 0, none⟩) (Nat.le_trans HT1.out GA.out) (fun e_ => by have h1_ := HX1.out; have h2_ := GA.out; have h3_ : ga = gx := e_; omega) (.string (q03 (q00 o e1).f2 i).f0)) (p := ⟨ga, 1, none⟩) (Nat.le_trans HT1.out GA.out) (fun e_ => by have h1_ := HX1.out; have h2_ := GA.out; have h3_ : ga = gx := e_; omega) (.string (q03 (q00 o e1).f2 i).f1))
           have HR2 := aS (Kd.R_mono (Kd.R_far (Kd.R_far (Kd.R_below (Kd.R_bound HR.out) AS.out) (p := ⟨ga, 0, none⟩) (fun k hk e_ => by have h1_ := hk.2.2.1; have h2_ := GA.out; have h3_ : k = ga := e_; omega) (.string (q03 (q00 o e1).f2 i).f0)) (p := ⟨ga, 1, none⟩) (fun k hk e_ => by have h1_ := hk.2.2.1; have h2_ := GA.out; have h3_ : k = ga := e_; omega) (.string (q03 (q00 o e1).f2 i).f1)) (fun k hk => hk.1))
           have AK2 := aS (q0h (q0h AK.out 0 (.string (q03 (q00 o e1).f2 i).f0)) 1 (.string (q03 (q00 o e1).f2 i).f1))
           have GB := aS (show w7.heap.size ≤ ga from Nat.le_trans (Below.size HB1.out) GA.out)
           have HB2 := aS (q08 (j := 1) (v := .string (q03 (q00 o e1).f2 i).f1) (q08 (j := 0) (v := .string (q03 (q00 o e1).f2 i).f0) (q01 HB1.out AS.out) GB.out) GB.out)
           have HX2 := aS (show gx < ((wa.setCell ⟨ga, 0, none⟩ (.string (q03 (q00 o e1).f2 i).f0)).setCell ⟨ga, 1, none⟩ (.string (q03 (q00 o e1).f2 i).f1)).heap.size from q0a HI2.out.2.1)
           have GX2 := aS (show T ≤ ga ∧ ga ≠ gx from ⟨Nat.le_trans HT1.out GA.out, fun e_ => by have h1_ := HX1.out; have h2_ := GA.out; omega⟩)
           have GK2 := aS (show ∀ k, k < wr.heap.size → k ≠ ga from fun k hk e_ => by have h2_ := GA.out; omega)
           have HT2 := aS (show T ≤ ((wa.setCell ⟨ga, 0, none⟩ (.string (q03 (q00 o e1).f2 i).f0)).setCell ⟨ga, 1, none⟩ (.string (q03 (q00 o e1).f2 i).f1)).heap.size from Nat.le_trans HT1.out (by have h1_ := Below.size AS.out; simpa using h1_))
           have HL2 := aS (Kd.R_mono (Kd.R_far (Kd.R_far (Kd.R_below (Kd.R_bound HR.out) AS.out) (p := ⟨ga, 0, none⟩) (fun k hk e_ => by have h1_ := hk.2.2.1; have h2_ := GA.out; have h3_ : k = ga := e_; omega) (.string (q03 (q00 o e1).f2 i).f0)) (p := ⟨ga, 1, none⟩) (fun k hk e_ => by have h1_ := hk.2.2.1; have h2_ := GA.out; have h3_ : k = ga := e_; omega) (.string (q03 (q00 o e1).f2 i).f1)) (ok' := fun k => (T ≤ k ∧ k ≠ gx) ∧ k ≠ ga) (fun k hk => ⟨hk.1, GK2.out k hk.2.2.1⟩))
           clear HIE1 HR HB1 AK GA AS hy0 hy1 hyf0 hyf1 hq0 hq1 hq2 hq3 hq4 hq5 hqf0 hqf1 hqf2 hqf3 hqf4 hqf5 y0 y1 ha0 ha1 ha2 ha3 ha4 ha5 ha6 ha7 ha8 ha9 ha10 ha11 HX1 HT1
           generalize (wa.setCell ⟨ga, 0, none⟩ (.string (q03 (q00 o e1).f2 i).f0)).setCell ⟨ga, 1, none⟩ (.string (q03 (q00 o e1).f2 i).f1) = wb at HI2 HR2 AK2 HB2 HX2 HT2 HL2 ⊢
           have AK3 := AK2.out
           obtain ⟨hy0, hy1, hyf0, hyf1⟩ := bk2 (show wb.heap[ga]? = some (.cells #[.string (q03 (q00 o e1).f2 i).f0, .string (q03 (q00 o e1).f2 i).f1] 122 (0, 0)) from AK3)
           clear AK3
           obtain ⟨ha0, ha1, ha2, ha3, ha4, ha5, ha6, ha7, ha8, ha9, ha10, ha11⟩ := bk12 (q02 EK0.out HB2.out)
           have HI3 := HI2
           have HR3 := HR2
           have HB3 := HB2
           have HX3 := HX2
           have HT3 := HT2
           have HI4 := HI3
           have HR4 := HR3
           have HB4 := HB3
           go_wp2
           go_roundg k1
           case measure => have := HK1.out; omega
           case rel => exact ⟨_, _, _, rfl, rfl, ⟨H⟩, ⟨by have := HK1.out; omega⟩, HI4, HR4, HB4⟩
         ·rw [if_neg d2] at H
          have d2b : (e0 != 2) = true := bne_iff_ne.mpr d2
          clear d2
          as_aux_lemma =>
           go_upto_region 16 with ((with_reducible refine q07 (N := 14) rfl ?_); refine box1 rfl (N := 14) rfl (cs := #[.string (⟨#[]⟩ : ByteArray), .string (⟨#[]⟩ : ByteArray)]) (t := 122) zh ?_; intro ga wa AK GA AS; obtain ⟨hy0, hy1, hyf0, hyf1⟩ := bk2 AK.out)
           have HI2 := aS (InEd.far (InEd.far (InEd.below HIE1.out AS.out) (p := ⟨ga, 0, none⟩) (Nat.le_trans HT1.out GA.out) (fun e_ => by have h1_ := HX1.out; have h2_ := GA.out; have h3_ : ga = gx := e_; omega) (.string (q03 (q00 o e1).f2 i).f0)) (p := ⟨ga, 1, none⟩) (Nat.le_trans HT1.out GA.out) (fun e_ => by have h1_ := HX1.out; have h2_ := GA.out; have h3_ : ga = gx := e_; omega) (.string (q03 (q00 o e1).f2 i).f1))
           have HR2 := aS (Kd.R_mono (Kd.R_far (Kd.R_far (Kd.R_below (Kd.R_bound HR.out) AS.out) (p := ⟨ga, 0, none⟩) (fun k hk e_ => by have h1_ := hk.2.2.1; have h2_ := GA.out; have h3_ : k = ga := e_; omega) (.string (q03 (q00 o e1).f2 i).f0)) (p := ⟨ga, 1, none⟩) (fun k hk e_ => by have h1_ := hk.2.2.1; have h2_ := GA.out; have h3_ : k = ga := e_; omega) (.string (q03 (q00 o e1).f2 i).f1)) (fun k hk => hk.1))
           have AK2 := aS (q0h (q0h AK.out 0 (.string (q03 (q00 o e1).f2 i).f0)) 1 (.string (q03 (q00 o e1).f2 i).f1))
           have GB := aS (show w7.heap.size ≤ ga from Nat.le_trans (Below.size HB1.out) GA.out)
           have HB2 := aS (q08 (j := 1) (v := .string (q03 (q00 o e1).f2 i).f1) (q08 (j := 0) (v := .string (q03 (q00 o e1).f2 i).f0) (q01 HB1.out AS.out) GB.out) GB.out)
           have HX2 := aS (show gx < ((wa.setCell ⟨ga, 0, none⟩ (.string (q03 (q00 o e1).f2 i).f0)).setCell ⟨ga, 1, none⟩ (.string (q03 (q00 o e1).f2 i).f1)).heap.size from q0a HI2.out.2.1)
           have GX2 := aS (show T ≤ ga ∧ ga ≠ gx from ⟨Nat.le_trans HT1.out GA.out, fun e_ => by have h1_ := HX1.out; have h2_ := GA.out; omega⟩)
           have GK2 := aS (show ∀ k, k < wr.heap.size → k ≠ ga from fun k hk e_ => by have h2_ := GA.out; omega)
           have HT2 := aS (show T ≤ ((wa.setCell ⟨ga, 0, none⟩ (.string (q03 (q00 o e1).f2 i).f0)).setCell ⟨ga, 1, none⟩ (.string (q03 (q00 o e1).f2 i).f1)).heap.size from Nat.le_trans HT1.out (by have h1_ := Below.size AS.out; simpa using h1_))
           have HL2 := aS (Kd.R_mono (Kd.R_far (Kd.R_far (Kd.R_below (Kd.R_bound HR.out) AS.out) (p := ⟨ga, 0, none⟩) (fun k hk e_ => by have h1_ := hk.2.2.1; have h2_ := GA.out; have h3_ : k = ga := e_; omega) (.string (q03 (q00 o e1).f2 i).f0)) (p := ⟨ga, 1, none⟩) (fun k hk e_ => by have h1_ := hk.2.2.1; have h2_ := GA.out; have h3_ : k = ga := e_; omega) (.string (q03 (q00 o e1).f2 i).f1)) (ok' := fun k => (T ≤ k ∧ k ≠ gx) ∧ k ≠ ga) (fun k hk => ⟨hk.1, GK2.out k hk.2.2.1⟩))
           clear HIE1 HR HB1 AK GA AS hy0 hy1 hyf0 hyf1 hq0 hq1 hq2 hq3 hq4 hq5 hqf0 hqf1 hqf2 hqf3 hqf4 hqf5 y0 y1 ha0 ha1 ha2 ha3 ha4 ha5 ha6 ha7 ha8 ha9 ha10 ha11 HX1 HT1
           generalize (wa.setCell ⟨ga, 0, none⟩ (.string (q03 (q00 o e1).f2 i).f0)).setCell ⟨ga, 1, none⟩ (.string (q03 (q00 o e1).f2 i).f1) = wb at HI2 HR2 AK2 HB2 HX2 HT2 HL2 ⊢
           have AK3 := AK2.out
           obtain ⟨hy0, hy1, hyf0, hyf1⟩ := bk2 (show wb.heap[ga]? = some (.cells #[.string (q03 (q00 o e1).f2 i).f0, .string (q03 (q00 o e1).f2 i).f1] 122 (0, 0)) from AK3)
           clear AK3
           obtain ⟨ha0, ha1, ha2, ha3, ha4, ha5, ha6, ha7, ha8, ha9, ha10, ha11⟩ := bk12 (q02 EK0.out HB2.out)
           by_cases cl : ll.length < 4398046511104
           ·rw [if_pos cl] at H
            have LM := aS cl
            clear cl
            have HI3 := HI2
            have HR3 := HR2
            have HB3 := HB2
            have HX3 := HX2
            have HT3 := HT2
            go_wp2_with ((with_reducible refine q1m (b := .append) (xs := #[.tmp 93, .tmp 95]) rfl ?_); at_builtin; go_must (refine Kd.R_append k122 (w0 := w7) w7.heap.size rfl (.tmp 93) (.tmp 95) 41 122 (.agg #[(.string ⟨#[]⟩), (.string ⟨#[]⟩)]) 32 rfl Tryd.underlying41 q1u rfl (by decide) (by omega) u11 ll (⟨(q03 (q00 o e1).f2 i).f0, (q03 (q00 o e1).f2 i).f1⟩ : S122) [.string (q03 (q00 o e1).f2 i).f0, .string (q03 (q00 o e1).f2 i).f1] (fun k => T ≤ k ∧ k ≠ gx) (fun _ => False) rfl rfl ?aP (fun _ hk => hk.elim) ?aF ?aO ?aB ?aS ?aL ?_; (case aP => exact k122_mkM _ _ _ (⟨(q03 (q00 o e1).f2 i).f0, (q03 (q00 o e1).f2 i).f1⟩ : S122)); (case aB => exact (z8 HB3.out)); (case aF => exact fun k hk => (by have h1_ := HT3.out; have h2_ := HX3.out; have h3_ := hk; (try simp at h3_); exact ⟨by omega, by omega⟩)); (case aO => exact (by repeat (first | exact HR3.out | apply rA | apply rN | apply rD))); (case aS => exact (q0c (z8 HB3.out))); (case aL => have := LM.out; omega); intro v20 w20 ho hb hg hat; have HB4 := aS hb; have HR4 := aS ho; have HI4 := aS (InEd.grown (by repeat (first | exact HI3.out | refine InEd.below ?_ (q0i (Below.refl _ _) _) | refine InEd.below ?_ (q0g (Below.refl _ _)))) hg (fun k hk => HR3.out.1 k hk)); clear ho hb hg hat))
            go_roundg k1
            case measure => have := HK1.out; omega
            case rel => exact ⟨_, _, _, rfl, rfl, ⟨H⟩, ⟨by have := HK1.out; omega⟩, HI4, HR4, HB4⟩
           ·rw [if_neg cl] at H
            exact absurd H (by simp)
       ·rw [if_neg cn] at H
        have cnb : ((q03 (q00 o e1).f2 i).f0.toList == e4.toList) = false := beq_eq_false_iff_ne.mpr cn
        have cnb2 : ((q03 (q00 o e1).f2 i).f0.toList != e4.toList) = true := bne_iff_ne.mpr cn
        clear cn
        as_aux_lemma =>
         go_upto_region 16 with ((with_reducible refine q07 (N := 14) rfl ?_); refine box1 rfl (N := 14) rfl (cs := #[.string (⟨#[]⟩ : ByteArray), .string (⟨#[]⟩ : ByteArray)]) (t := 122) zh ?_; intro ga wa AK GA AS; obtain ⟨hy0, hy1, hyf0, hyf1⟩ := bk2 AK.out)
         have HI2 := aS (InEd.far (InEd.far (InEd.below HIE1.out AS.out) (p := ⟨ga, 0, none⟩) (Nat.le_trans HT1.out GA.out) (fun e_ => by have h1_ := HX1.out; have h2_ := GA.out; have h3_ : ga = gx := e_; omega) (.string (q03 (q00 o e1).f2 i).f0)) (p := ⟨ga, 1, none⟩) (Nat.le_trans HT1.out GA.out) (fun e_ => by have h1_ := HX1.out; have h2_ := GA.out; have h3_ : ga = gx := e_; omega) (.string (q03 (q00 o e1).f2 i).f1))
         have HR2 := aS (Kd.R_mono (Kd.R_far (Kd.R_far (Kd.R_below (Kd.R_bound HR.out) AS.out) (p := ⟨ga, 0, none⟩) (fun k hk e_ => by have h1_ := hk.2.2.1; have h2_ := GA.out; have h3_ : k = ga := e_; omega) (.string (q03 (q00 o e1).f2 i).f0)) (p := ⟨ga, 1, none⟩) (fun k hk e_ => by have h1_ := hk.2.2.1; have h2_ := GA.out; have h3_ : k = ga := e_; omega) (.string (q03 (q00 o e1).f2 i).f1)) (fun k hk => hk.1))
         have AK2 := aS (q0h (q0h AK.out 0 (.string (q03 (q00 o e1).f2 i).f0)) 1 (.string (q03 (q00 o e1).f2 i).f1))
         have GB := aS (show w7.heap.size ≤ ga from Nat.le_trans (Below.size HB1.out) GA.out)
         have HB2 := aS (q08 (j := 1) (v := .string (q03 (q00 o e1).f2 i).f1) (q08 (j := 0) (v := .string (q03 (q00 o e1).f2 i).f0) (q01 HB1.out AS.out) GB.out) GB.out)
         have HX2 := aS (show gx < ((wa.setCell ⟨ga, 0, none⟩ (.string (q03 (q00 o e1).f2 i).f0)).setCell ⟨ga, 1, none⟩ (.string (q03 (q00 o e1).f2 i).f1)).heap.size from q0a HI2.out.2.1)
         have GX2 := aS (show T ≤ ga ∧ ga ≠ gx from ⟨Nat.le_trans HT1.out GA.out, fun e_ => by have h1_ := HX1.out; have h2_ := GA.out; omega⟩)
         have GK2 := aS (show ∀ k, k < wr.heap.size → k ≠ ga from fun k hk e_ => by have h2_ := GA.out; omega)
         have HT2 := aS (show T ≤ ((wa.setCell ⟨ga, 0, none⟩ (.string (q03 (q00 o e1).f2 i).f0)).setCell ⟨ga, 1, none⟩ (.string (q03 (q00 o e1).f2 i).f1)).heap.size from Nat.le_trans HT1.out (by have h1_ := Below.size AS.out; simpa using h1_))
         have HL2 := aS (Kd.R_mono (Kd.R_far (Kd.R_far (Kd.R_below (Kd.R_bound HR.out) AS.out) (p := ⟨ga, 0, none⟩) (fun k hk e_ => by have h1_ := hk.2.2.1; have h2_ := GA.out; have h3_ : k = ga := e_; omega) (.string (q03 (q00 o e1).f2 i).f0)) (p := ⟨ga, 1, none⟩) (fun k hk e_ => by have h1_ := hk.2.2.1; have h2_ := GA.out; have h3_ : k = ga := e_; omega) (.string (q03 (q00 o e1).f2 i).f1)) (ok' := fun k => (T ≤ k ∧ k ≠ gx) ∧ k ≠ ga) (fun k hk => ⟨hk.1, GK2.out k hk.2.2.1⟩))
         clear HIE1 HR HB1 AK GA AS hy0 hy1 hyf0 hyf1 hq0 hq1 hq2 hq3 hq4 hq5 hqf0 hqf1 hqf2 hqf3 hqf4 hqf5 y0 y1 ha0 ha1 ha2 ha3 ha4 ha5 ha6 ha7 ha8 ha9 ha10 ha11 HX1 HT1
         generalize (wa.setCell ⟨ga, 0, none⟩ (.string (q03 (q00 o e1).f2 i).f0)).setCell ⟨ga, 1, none⟩ (.string (q03 (q00 o e1).f2 i).f1) = wb at HI2 HR2 AK2 HB2 HX2 HT2 HL2 ⊢
         have AK3 := AK2.out
         obtain ⟨hy0, hy1, hyf0, hyf1⟩ := bk2 (show wb.heap[ga]? = some (.cells #[.string (q03 (q00 o e1).f2 i).f0, .string (q03 (q00 o e1).f2 i).f1] 122 (0, 0)) from AK3)
         clear AK3
         obtain ⟨ha0, ha1, ha2, ha3, ha4, ha5, ha6, ha7, ha8, ha9, ha10, ha11⟩ := bk12 (q02 EK0.out HB2.out)
         by_cases cl : ll.length < 4398046511104
         ·rw [if_pos cl] at H
          have LM := aS cl
          clear cl
          have HI3 := HI2
          have HR3 := HR2
          have HB3 := HB2
          have HX3 := HX2
          have HT3 := HT2
          go_wp2_with ((with_reducible refine q1m (b := .append) (xs := #[.tmp 93, .tmp 95]) rfl ?_); at_builtin; go_must (refine Kd.R_append k122 (w0 := w7) w7.heap.size rfl (.tmp 93) (.tmp 95) 41 122 (.agg #[(.string ⟨#[]⟩), (.string ⟨#[]⟩)]) 32 rfl Tryd.underlying41 q1u rfl (by decide) (by omega) u11 ll (⟨(q03 (q00 o e1).f2 i).f0, (q03 (q00 o e1).f2 i).f1⟩ : S122) [.string (q03 (q00 o e1).f2 i).f0, .string (q03 (q00 o e1).f2 i).f1] (fun k => T ≤ k ∧ k ≠ gx) (fun _ => False) rfl rfl ?aP (fun _ hk => hk.elim) ?aF ?aO ?aB ?aS ?aL ?_; (case aP => exact k122_mkM _ _ _ (⟨(q03 (q00 o e1).f2 i).f0, (q03 (q00 o e1).f2 i).f1⟩ : S122)); (case aB => exact (z8 HB3.out)); (case aF => exact fun k hk => (by have h1_ := HT3.out; have h2_ := HX3.out; have h3_ := hk; (try simp at h3_); exact ⟨by omega, by omega⟩)); (case aO => exact (by repeat (first | exact HR3.out | apply rA | apply rN | apply rD))); (case aS => exact (q0c (z8 HB3.out))); (case aL => have := LM.out; omega); intro v20 w20 ho hb hg hat; have HB4 := aS hb; have HR4 := aS ho; have HI4 := aS (InEd.grown (by repeat (first | exact HI3.out | refine InEd.below ?_ (q0i (Below.refl _ _) _) | refine InEd.below ?_ (q0g (Below.refl _ _)))) hg (fun k hk => HR3.out.1 k hk)); clear ho hb hg hat))
          go_roundg k1
          case measure => have := HK1.out; omega
          case rel => exact ⟨_, _, _, rfl, rfl, ⟨H⟩, ⟨by have := HK1.out; omega⟩, HI4, HR4, HB4⟩
         ·rw [if_neg cl] at H
          exact absurd H (by simp)
      case n10 =>
       have c10b : decide (i < ((q00 o e1).f2.length : Int)) = false := decide_eq_false c10
       clear c10
       simp only [Option.some.injEq, Prod.mk.injEq] at H
       obtain ⟨rfl, rfl⟩ := H
       have hm := HM.out
       clear HM
       obtain ⟨hz0, hz1, -, -⟩ := bk2 HIE1.out.1.1
       by_cases d1 : e0 = 1
       ·rw [if_pos d1] at hm
        have d1b : (e0 == 1) = true := beq_iff_eq.mpr d1
        have d12b : (e0 == 2) = false := beq_eq_false_iff_ne.mpr (by omega)
        have f3b : (e0 == 3) = false := beq_eq_false_iff_ne.mpr (by omega)
        have f5b : (e0 == 5) = false := beq_eq_false_iff_ne.mpr (by omega)
        have f6b : (e0 == 6) = false := beq_eq_false_iff_ne.mpr (by omega)
        clear d1
        as_aux_lemma =>
         cases st with
         | true =>
          rw [if_pos rfl] at hm
          simp only [Option.some.injEq] at hm
          subst hm
          obtain ⟨Au, cu, eu_⟩ := Kd.R_slice HR.out
          subst eu_
          go_upto_region 25 with (fail)
          have HI3 := aS (InEd.putx (cs' := #[.int .i64 (q00 o e1).f0, .string (q00 o e1).f1, .slice Au ll.length cu, .string (q00 o e1).f3, .int .i64 (q00 o e1).f4, .slice A5 (q00 o e1).f5.length c5]) HIE1.out 2 (.slice Au ll.length cu) rfl)
          have HB3 := aS (q08 (j := 2) (v := .slice Au ll.length cu) HB1.out HIE1.out.gxge)
          have HR5 := aS (Kd.R_far HR.out (p := ⟨gx, 2, none⟩) (fun k hk e_ => hk.2 e_) (.slice Au ll.length cu))
          clear hz0 hz1 hq0 hq1 hq2 hq3 hq4 hq5 hqf0 hqf1 hqf2 hqf3 hqf4 hqf5 ha0 ha1 ha2 ha3 ha4 ha5 ha6 ha7 ha8 ha9 ha10 ha11
          generalize wr.setCell ⟨gx, 2, none⟩ (.slice Au ll.length cu) = wt at HI3 HB3 HR5 ⊢
          obtain ⟨hz0, hz1, -, -⟩ := bk2 HI3.out.1.1
          have hqq_ := bk6 HI3.out.2.1
          obtain ⟨hq0, hq1, hq2, hq3, hq4, hq5, hqf0, hqf1, hqf2, hqf3, hqf4, hqf5⟩ := hqq_
          obtain ⟨ha0, ha1, ha2, ha3, ha4, ha5, ha6, ha7, ha8, ha9, ha10, ha11⟩ := bk12 (q02 EK0.out HB3.out)
          go_upto_region 37 with (fail)
          have HTH := aS (q0u.there HI3.out.1 e1 HN0.out HN1.out)
          have HW9 := aS (q0u.whole HI3.out.1 (Nat.le_trans HI3.out.2.2.2.2.1 (Nat.le_of_lt (q0a HI3.out.2.1))) e1 HN0.out HN1.out { (q00 o e1) with f2 := ll } (.slice Au ll.length cu) (.slice A5 (q00 o e1).f5.length c5) (.inr (Kd.R_mono (Kd.R_bound HR5.out) (fun k hk => ⟨hk.1.1, hk.2.2.1, fun e_ => by have h1_ := hk.1.1; have h2_ := HI3.out.2.2.2.2.2; omega⟩))) (.inl ⟨HI3.out.2.2.2.1, rfl⟩))
          have HB9_ := aS (q1r HW9.out.ge.1 [.int .i64 (q00 o e1).f0, .string (q00 o e1).f1, .slice Au ll.length cu, .string (q00 o e1).f3, .int .i64 (q00 o e1).f4, .slice A5 (q00 o e1).f5.length c5] (e1.toNat * 6) HB3.out)
          go_wp2_with (refine wpList_store_mid (by rfl) 43 (.tmp 198) (.tmp 197) (by rfl) b (e1.toNat * 6) #[.int .i64 (q00 o e1).f0, .string (q00 o e1).f1, .slice Au ll.length cu, .string (q00 o e1).f3, .int .i64 (q00 o e1).f4, .slice A5 (q00 o e1).f5.length c5] ?hx ?hy ?hT ?hI ?h1 ?_; go_must ((case hx => rfl); (case hy => rfl); (case hT => exact HTH.out); (case hI => kernel_rfl); (case h1 => first | rfl | (simp [Value.oneCell']; done) | (simp; done) | decide)))
          go_meet
          exact ⟨rfl, ⟨⟨_, _, _, HW9.out⟩⟩, HB9_⟩
         | false =>
          rw [if_neg Bool.false_ne_true] at hm
          by_cases cl : ll.length < 4398046511104
          ·rw [if_pos cl] at hm
           have LM := aS cl
           clear cl
           have HX3 := aS (q0a HIE1.out.2.1)
           have HT3 := aS (show T ≤ wr.heap.size from Nat.le_of_lt (Nat.lt_of_le_of_lt HIE1.out.2.2.2.2.1 HX3.out))
           simp only [Option.some.injEq] at hm
           subst hm
           obtain ⟨Au, cu, eu_⟩ := Kd.R_slice HR.out
           subst eu_
           go_upto_region 25 with ((with_reducible refine q1m (b := .append) (xs := #[.tmp 104, .tmp 110]) rfl ?_); at_builtin; go_must (refine Kd.R_append k122 (w0 := w7) w7.heap.size rfl (.tmp 104) (.tmp 110) 41 122 (.agg #[(.string ⟨#[]⟩), (.string ⟨#[]⟩)]) 32 rfl Tryd.underlying41 q1u rfl (by decide) (by omega) (.slice Au ll.length cu) ll (⟨e4, e5⟩ : S122) [.string e4, .string e5] (fun k => T ≤ k ∧ k ≠ gx) (fun _ => False) rfl (by first | rfl | (simp; done) | (simp [Act.eval]; done)) ?aP (fun _ hk => hk.elim) ?aF ?aO ?aB ?aS ?aL ?_; (case aP => exact k122_mkM _ _ _ (⟨e4, e5⟩ : S122)); (case aB => exact (z8 HB1.out)); (case aF => exact fun k hk => (by have h1_ := HT3.out; have h2_ := HX3.out; have h3_ := hk; (try simp at h3_); exact ⟨by omega, by omega⟩)); (case aO => exact (by repeat (first | exact HR.out | apply rA | apply rN | apply rD))); (case aS => exact (q0c (z8 HB1.out))); (case aL => have := LM.out; omega); intro v20 w20 ho hb hg hat; have HB4 := aS hb; have HR4 := aS ho; have HI4 := aS (InEd.grown (by repeat (first | exact HIE1.out | refine InEd.below ?_ (q0i (Below.refl _ _) _) | refine InEd.below ?_ (q0g (Below.refl _ _)))) hg (fun k hk => HR.out.1 k hk)); clear ho hb hg hat; obtain ⟨A20, c20, e20_⟩ := Kd.R_slice HR4.out; (try rw [show (ll ++ [(⟨e4, e5⟩ : S122)]).length = ll.length + 1 from by rw [List.length_append]; rfl] at e20_); subst e20_; clear hz0 hz1 hq0 hq1 hq2 hq3 hq4 hq5 hqf0 hqf1 hqf2 hqf3 hqf4 hqf5 ha0 ha1 ha2 ha3 ha4 ha5 ha6 ha7 ha8 ha9 ha10 ha11; obtain ⟨hz0, hz1, -, -⟩ := bk2 HI4.out.1.1; have hqq_ := bk6 HI4.out.2.1; obtain ⟨hq0, hq1, hq2, hq3, hq4, hq5, hqf0, hqf1, hqf2, hqf3, hqf4, hqf5⟩ := hqq_; obtain ⟨ha0, ha1, ha2, ha3, ha4, ha5, ha6, ha7, ha8, ha9, ha10, ha11⟩ := bk12 (q02 EK0.out HB4.out)))
           have HI3 := aS (InEd.putx (cs' := #[.int .i64 (q00 o e1).f0, .string (q00 o e1).f1, .slice A20 (ll.length + 1) c20, .string (q00 o e1).f3, .int .i64 (q00 o e1).f4, .slice A5 (q00 o e1).f5.length c5]) HI4.out 2 (.slice A20 (ll.length + 1) c20) rfl)
           have HB3 := aS (q08 (j := 2) (v := .slice A20 (ll.length + 1) c20) HB4.out HI4.out.gxge)
           have HR5 := aS (Kd.R_far HR4.out (p := ⟨gx, 2, none⟩) (fun k hk e_ => hk.2 e_) (.slice A20 (ll.length + 1) c20))
           clear hz0 hz1 hq0 hq1 hq2 hq3 hq4 hq5 hqf0 hqf1 hqf2 hqf3 hqf4 hqf5 ha0 ha1 ha2 ha3 ha4 ha5 ha6 ha7 ha8 ha9 ha10 ha11
           generalize w20.setCell ⟨gx, 2, none⟩ (.slice A20 (ll.length + 1) c20) = wt at HI3 HB3 HR5 ⊢
           obtain ⟨hz0, hz1, -, -⟩ := bk2 HI3.out.1.1
           have hqq_ := bk6 HI3.out.2.1
           obtain ⟨hq0, hq1, hq2, hq3, hq4, hq5, hqf0, hqf1, hqf2, hqf3, hqf4, hqf5⟩ := hqq_
           obtain ⟨ha0, ha1, ha2, ha3, ha4, ha5, ha6, ha7, ha8, ha9, ha10, ha11⟩ := bk12 (q02 EK0.out HB3.out)
           go_upto_region 37 with (fail)
           have HTH := aS (q0u.there HI3.out.1 e1 HN0.out HN1.out)
           have HW9 := aS (q0u.whole HI3.out.1 (Nat.le_trans HI3.out.2.2.2.2.1 (Nat.le_of_lt (q0a HI3.out.2.1))) e1 HN0.out HN1.out { (q00 o e1) with f2 := (ll ++ [(⟨e4, e5⟩ : S122)]) } (.slice A20 (ll.length + 1) c20) (.slice A5 (q00 o e1).f5.length c5) (.inr (Kd.R_mono (Kd.R_bound HR5.out) (fun k hk => ⟨hk.1.1, hk.2.2.1, fun e_ => by have h1_ := hk.1.1; have h2_ := HI3.out.2.2.2.2.2; omega⟩))) (.inl ⟨HI3.out.2.2.2.1, rfl⟩))
           have HB9_ := aS (q1r HW9.out.ge.1 [.int .i64 (q00 o e1).f0, .string (q00 o e1).f1, .slice A20 (ll.length + 1) c20, .string (q00 o e1).f3, .int .i64 (q00 o e1).f4, .slice A5 (q00 o e1).f5.length c5] (e1.toNat * 6) HB3.out)
           go_wp2_with (refine wpList_store_mid (by rfl) 43 (.tmp 198) (.tmp 197) (by rfl) b (e1.toNat * 6) #[.int .i64 (q00 o e1).f0, .string (q00 o e1).f1, .slice A20 (ll.length + 1) c20, .string (q00 o e1).f3, .int .i64 (q00 o e1).f4, .slice A5 (q00 o e1).f5.length c5] ?hx ?hy ?hT ?hI ?h1 ?_; go_must ((case hx => rfl); (case hy => rfl); (case hT => exact HTH.out); (case hI => kernel_rfl); (case h1 => first | rfl | (simp [Value.oneCell']; done) | (simp; done) | decide)))
           go_meet
           exact ⟨rfl, ⟨⟨_, _, _, HW9.out⟩⟩, HB9_⟩
          ·rw [if_neg cl] at hm
           exact absurd hm (by simp)
       ·rw [if_neg d1] at hm
        have d1b : (e0 == 1) = false := beq_eq_false_iff_ne.mpr d1
        clear d1
        by_cases d2 : e0 = 2
        ·rw [if_pos d2] at hm
         have d2b : (e0 == 2) = true := beq_iff_eq.mpr d2
         have f3b : (e0 == 3) = false := beq_eq_false_iff_ne.mpr (by omega)
         have f5b : (e0 == 5) = false := beq_eq_false_iff_ne.mpr (by omega)
         have f6b : (e0 == 6) = false := beq_eq_false_iff_ne.mpr (by omega)
         clear d2
         as_aux_lemma =>
          simp only [Option.some.injEq] at hm
          subst hm
          obtain ⟨Au, cu, eu_⟩ := Kd.R_slice HR.out
          subst eu_
          go_upto_region 25 with (fail)
          have HI3 := aS (InEd.putx (cs' := #[.int .i64 (q00 o e1).f0, .string (q00 o e1).f1, .slice Au ll.length cu, .string (q00 o e1).f3, .int .i64 (q00 o e1).f4, .slice A5 (q00 o e1).f5.length c5]) HIE1.out 2 (.slice Au ll.length cu) rfl)
          have HB3 := aS (q08 (j := 2) (v := .slice Au ll.length cu) HB1.out HIE1.out.gxge)
          have HR5 := aS (Kd.R_far HR.out (p := ⟨gx, 2, none⟩) (fun k hk e_ => hk.2 e_) (.slice Au ll.length cu))
          clear hz0 hz1 hq0 hq1 hq2 hq3 hq4 hq5 hqf0 hqf1 hqf2 hqf3 hqf4 hqf5 ha0 ha1 ha2 ha3 ha4 ha5 ha6 ha7 ha8 ha9 ha10 ha11
          generalize wr.setCell ⟨gx, 2, none⟩ (.slice Au ll.length cu) = wt at HI3 HB3 HR5 ⊢
          obtain ⟨hz0, hz1, -, -⟩ := bk2 HI3.out.1.1
          have hqq_ := bk6 HI3.out.2.1
          obtain ⟨hq0, hq1, hq2, hq3, hq4, hq5, hqf0, hqf1, hqf2, hqf3, hqf4, hqf5⟩ := hqq_
          obtain ⟨ha0, ha1, ha2, ha3, ha4, ha5, ha6, ha7, ha8, ha9, ha10, ha11⟩ := bk12 (q02 EK0.out HB3.out)
          go_upto_region 37 with (fail)
          have HTH := aS (q0u.there HI3.out.1 e1 HN0.out HN1.out)
          have HW9 := aS (q0u.whole HI3.out.1 (Nat.le_trans HI3.out.2.2.2.2.1 (Nat.le_of_lt (q0a HI3.out.2.1))) e1 HN0.out HN1.out { (q00 o e1) with f2 := ll } (.slice Au ll.length cu) (.slice A5 (q00 o e1).f5.length c5) (.inr (Kd.R_mono (Kd.R_bound HR5.out) (fun k hk => ⟨hk.1.1, hk.2.2.1, fun e_ => by have h1_ := hk.1.1; have h2_ := HI3.out.2.2.2.2.2; omega⟩))) (.inl ⟨HI3.out.2.2.2.1, rfl⟩))
          have HB9_ := aS (q1r HW9.out.ge.1 [.int .i64 (q00 o e1).f0, .string (q00 o e1).f1, .slice Au ll.length cu, .string (q00 o e1).f3, .int .i64 (q00 o e1).f4, .slice A5 (q00 o e1).f5.length c5] (e1.toNat * 6) HB3.out)
          go_wp2_with (refine wpList_store_mid (by rfl) 43 (.tmp 198) (.tmp 197) (by rfl) b (e1.toNat * 6) #[.int .i64 (q00 o e1).f0, .string (q00 o e1).f1, .slice Au ll.length cu, .string (q00 o e1).f3, .int .i64 (q00 o e1).f4, .slice A5 (q00 o e1).f5.length c5] ?hx ?hy ?hT ?hI ?h1 ?_; go_must ((case hx => rfl); (case hy => rfl); (case hT => exact HTH.out); (case hI => kernel_rfl); (case h1 => first | rfl | (simp [Value.oneCell']; done) | (simp; done) | decide)))
          go_meet
          exact ⟨rfl, ⟨⟨_, _, _, HW9.out⟩⟩, HB9_⟩
        ·rw [if_neg d2] at hm
         have d2b : (e0 == 2) = false := beq_eq_false_iff_ne.mpr d2
         clear d2
         by_cases d3 : e0 = 3
         ·rw [if_pos d3] at hm
          have d3b : (e0 == 3) = true := beq_iff_eq.mpr d3
          have f5b : (e0 == 5) = false := beq_eq_false_iff_ne.mpr (by omega)
          have f6b : (e0 == 6) = false := beq_eq_false_iff_ne.mpr (by omega)
          clear d3
          as_aux_lemma =>
           go_upto_region 27 with (fail)
           simp only [Option.some.injEq] at hm
           subst hm
           have HI3 := aS (InEd.putx (cs' := #[.int .i64 (q00 o e1).f0, .string (q00 o e1).f1, .slice A2 (q00 o e1).f2.length c2, .string e5, .int .i64 (q00 o e1).f4, .slice A5 (q00 o e1).f5.length c5]) HIE1.out 3 (.string e5) rfl)
           have HB3 := aS (q08 (j := 3) (v := .string e5) HB1.out HIE1.out.gxge)
           clear hz0 hz1 hq0 hq1 hq2 hq3 hq4 hq5 hqf0 hqf1 hqf2 hqf3 hqf4 hqf5 ha0 ha1 ha2 ha3 ha4 ha5 ha6 ha7 ha8 ha9 ha10 ha11
           generalize wr.setCell ⟨gx, 3, none⟩ (.string e5) = wt at HI3 HB3 ⊢
           obtain ⟨hz0, hz1, -, -⟩ := bk2 HI3.out.1.1
           have hqq_ := bk6 HI3.out.2.1
           obtain ⟨hq0, hq1, hq2, hq3, hq4, hq5, hqf0, hqf1, hqf2, hqf3, hqf4, hqf5⟩ := hqq_
           obtain ⟨ha0, ha1, ha2, ha3, ha4, ha5, ha6, ha7, ha8, ha9, ha10, ha11⟩ := bk12 (q02 EK0.out HB3.out)
           go_upto_region 37 with (fail)
           have HTH := aS (q0u.there HI3.out.1 e1 HN0.out HN1.out)
           have HW9 := aS (q0u.whole HI3.out.1 (Nat.le_refl T) e1 HN0.out HN1.out { (q00 o e1) with f3 := e5 } (.slice A2 (q00 o e1).f2.length c2) (.slice A5 (q00 o e1).f5.length c5) (.inl ⟨HI3.out.2.2.1, rfl⟩) (.inl ⟨HI3.out.2.2.2.1, rfl⟩))
           have HB9_ := aS (q1r HW9.out.ge.1 [.int .i64 (q00 o e1).f0, .string (q00 o e1).f1, .slice A2 (q00 o e1).f2.length c2, .string e5, .int .i64 (q00 o e1).f4, .slice A5 (q00 o e1).f5.length c5] (e1.toNat * 6) HB3.out)
           go_wp2_with (refine wpList_store_mid (by rfl) 43 (.tmp 198) (.tmp 197) (by rfl) b (e1.toNat * 6) #[.int .i64 (q00 o e1).f0, .string (q00 o e1).f1, .slice A2 (q00 o e1).f2.length c2, .string e5, .int .i64 (q00 o e1).f4, .slice A5 (q00 o e1).f5.length c5] ?hx ?hy ?hT ?hI ?h1 ?_; go_must ((case hx => rfl); (case hy => rfl); (case hT => exact HTH.out); (case hI => kernel_rfl); (case h1 => first | rfl | (simp [Value.oneCell']; done) | (simp; done) | decide)))
           go_meet
           exact ⟨rfl, ⟨⟨_, _, _, HW9.out⟩⟩, HB9_⟩
         ·rw [if_neg d3] at hm
          have d3b : (e0 == 3) = false := beq_eq_false_iff_ne.mpr d3
          clear d3
          by_cases d5 : e0 = 5
          ·rw [if_pos d5] at hm
           have d5b : (e0 == 5) = true := beq_iff_eq.mpr d5
           have f6b : (e0 == 6) = false := beq_eq_false_iff_ne.mpr (by omega)
           clear d5
           as_aux_lemma =>
            refine iGp hm ?_
            clear hm
            intro ⟨t0, t1, t2⟩ hm
            have HT0 := aS t0
            have HT1 := aS t1
            have HT2 := aS t2
            obtain ⟨i, hi, hm⟩ := Option.bind_eq_some_iff.1 hm
            refine iGp hm ?_
            clear hm
            intro ⟨i0, i1, i2⟩ hm
            have HI0 := aS i0
            have HI1 := aS i1
            have HI2 := aS i2
            clear t0 t1 t2 i0 i1 i2
            simp only [Option.some.injEq] at hm
            subst hm
            go_upto_if 136 with (fail)
            go_cut [15] (fun v15 wc => v15 = .int .i64 i ∧ Aside0 (InEd w7 wc T g gx b cap o q2 e1 #[.int .i64 (q00 o e1).f0, .string (q00 o e1).f1, .slice A2 (q00 o e1).f2.length c2, .string (q00 o e1).f3, .int .i64 (q00 o e1).f4, .slice A5 (q00 o e1).f5.length c5] A2 c2 A5 c5) ∧ Aside0 (Below w7.heap.size w7 wc))
            case first =>
             have hk5 := HIE1.out.kids HN0.out HN1.out
             have HC5 := aS hk5.1
             have HL5 := aS hk5.2
             clear hk5
             by_cases n3 : e3 = -1
             ·rw [if_pos n3] at hi
              have n3b : (e3 != -1) = false := bne_eq_false_iff_eq.mpr n3
              clear n3
              obtain rfl := Option.some.inj hi
              go_wp2
              go_meet
              exact ⟨rfl, HIE1, HB1⟩
             ·rw [if_neg n3] at hi
              have n3b : (e3 != -1) = true := bne_iff_ne.mpr n3
              clear n3
              go_wp2_with (go_at_call 74; (with_reducible refine (clerestoryref1_placeIn.calls k A5 c5 (q00 o e1).f5 e3 i _ HC5.out HL5.out hi).mono ?_); rintro e w30 ⟨rfl, hd⟩; have hbx := q0p hd; clear hd; have HI3 := aS (InEd.below HIE1.out hbx); have HB3 := aS (q01 HB1.out hbx); clear hbx)
              go_meet
              exact ⟨rfl, HI3, HB3⟩
            case rest =>
             obtain ⟨rfl, HIc, HBc⟩ := hcut
             clear HIE1 HB1 HR hi hz0 hz1 hq0 hq1 hq2 hq3 hq4 hq5 hqf0 hqf1 hqf2 hqf3 hqf4 hqf5 ha0 ha1 ha2 ha3 ha4 ha5 ha6 ha7 ha8 ha9 ha10 ha11
             have hk5 := HIc.out.kids HN0.out HN1.out
             obtain ⟨i01, hi01, _, hsz1, _⟩ := info_parts info3
             obtain ⟨hcut1, hA1, hC1⟩ := print_take_of (P := Tryd.prog) (Value.int .i64) 0 31 3 .i64 Tryd.underlying31 hi01 hsz1 A5 c5 (q00 o e1).f5 i HI0.out HI1.out hk5.2
             have HA1 := aS hA1
             have HLT : Aside0 (((q00 o e1).f5.take i.toNat).length = i.toNat) := ⟨by rw [List.length_take]; have h1_ := HI0.out; have h2_ := HI1.out; omega⟩
             obtain ⟨A12, hcut2, hA2, hC2⟩ := print_drop_of (P := Tryd.prog) (Value.int .i64) 0 31 3 .i64 Tryd.underlying31 hi01 hsz1 A5 c5 (q00 o e1).f5 i HI0.out HI1.out hk5.2
             have HA2 := aS hA2
             have HLD : Aside0 (((q00 o e1).f5.drop i.toNat).length = (q00 o e1).f5.length - i.toNat) := ⟨List.length_drop⟩
             clear hA1 hA2 hC1 hC2 hi01 hsz1 hk5
             go_upto_region 31 with (fail)
             refine start_ (n := 17) (S := fun w' => w'.cell? ⟨gx, 5, none⟩ = some (.slice A5 (q00 o e1).f5.length c5) ∧ w'.cell? ⟨ge, 2, none⟩ = some (.int .i64 e2)) (ds := [16]) #[false, false, false, false, false, false, false, false, false, false, false, false, false, false, false, false, false] (by kernel_rfl) rfl rfl ⟨(bk6 HIc.out.2.1).2.2.2.2.2.1, (bk12 (q02 EK0.out HBc.out)).2.2.1⟩ (fun hHeld => ?_)
             refine q0n (i := 1) (N := some 143) (v := ?_) (a' := ?_) #[false, true, false, false, false, false, false, false, false, false, false, false, false, false, false, false, false] rfl rfl (by kernel_rfl) (fun _ _ _ h => h) (Or.inl ⟨by rfl, ?_⟩) ?_ ?_
             rotate_left
             ·intro w'
              go_simp
              with_reducible rfl
             rotate_left
             ·simp only [Act.put, s1, s2, s3, q0d, q0e]
              rfl
             refine q0n (i := 3) (N := some 145) (v := ?_) (a' := ?_) #[false, true, false, true, false, false, false, false, false, false, false, false, false, false, false, false, false] rfl rfl (by kernel_rfl) (fun _ _ _ h => h) (Or.inl ⟨by rfl, ?_⟩) ?_ ?_
             rotate_left
             ·intro w'
              go_simp
              with_reducible rfl
             rotate_left
             ·simp only [Act.put, s1, s2, s3, q0d, q0e]
              rfl
             refine q0n (i := 6) (N := some 148) (v := ?_) (a' := ?_) #[false, true, false, true, false, false, true, false, false, false, false, false, false, false, false, false, false] rfl rfl (by kernel_rfl) (fun _ _ _ h => h) (Or.inl ⟨by rfl, ?_⟩) ?_ ?_
             rotate_left
             ·intro w'
              go_simp
              with_reducible rfl
             rotate_left
             ·simp only [Act.put, s1, s2, s3, q0d, q0e]
              rfl
             refine q0n (i := 10) (N := some 152) (v := ?_) (a' := ?_) #[false, true, false, true, false, false, true, false, false, false, true, false, false, false, false, false, false] rfl rfl (by kernel_rfl) (fun _ _ _ h => h) (Or.inl ⟨by rfl, ?_⟩) ?_ ?_
             rotate_left
             ·intro w'
              go_simp
              with_reducible rfl
             rotate_left
             ·simp only [Act.put, s1, s2, s3, q0d, q0e]
              rfl
             refine q0n (i := 12) (N := some 154) (v := ?_) (a' := ?_) #[false, true, false, true, false, false, true, false, false, false, true, false, true, false, false, false, false] rfl rfl (by kernel_rfl) (fun _ _ _ h => h) (Or.inl ⟨by rfl, ?_⟩) ?_ ?_
             rotate_left
             ·intro w'
              go_simp
              with_reducible rfl
             rotate_left
             ·simp only [Act.put, s1, s2, s3, q0d, q0e]
              rfl
             refine take_ (i := 2) (N := some 144) (v := ?_) (a' := ?_) #[false, true, true, true, false, false, true, false, false, false, true, false, true, false, false, false, false] rfl rfl (by kernel_rfl) (fun _ _ _ h => h) (Or.inl ⟨by rfl, ?_⟩) hHeld ?_ ?_
             rotate_left
             ·rintro w' ⟨s0, s1⟩
              go_simp
              with_reducible rfl
             rotate_left
             ·simp only [Act.put, s1, s2, s3, q0d, q0e]
              rfl
             refine q0n (i := 4) (N := some 146) (v := ?_) (a' := ?_) #[false, true, true, true, true, false, true, false, false, false, true, false, true, false, false, false, false] rfl rfl (by kernel_rfl) (fun _ _ _ h => h) (Or.inl ⟨by rfl, ?_⟩) ?_ ?_
             rotate_left
             ·intro w'
              go_simp
              with_reducible rfl
             rotate_left
             ·simp only [Act.put, s1, s2, s3, q0d, q0e]
              rfl
             refine take_ (i := 7) (N := some 149) (v := ?_) (a' := ?_) #[false, true, true, true, true, false, true, true, false, false, true, false, true, false, false, false, false] rfl rfl (by kernel_rfl) (fun _ _ _ h => h) (Or.inl ⟨by rfl, ?_⟩) hHeld ?_ ?_
             rotate_left
             ·rintro w' ⟨s0, s1⟩
              go_simp
              with_reducible rfl
             rotate_left
             ·simp only [Act.put, s1, s2, s3, q0d, q0e]
              rfl
             refine take_ (i := 11) (N := some 153) (v := ?_) (a' := ?_) #[false, true, true, true, true, false, true, true, false, false, true, true, true, false, false, false, false] rfl rfl (by kernel_rfl) (fun _ _ _ h => h) (Or.inl ⟨by rfl, ?_⟩) hHeld ?_ ?_
             rotate_left
             ·rintro w' ⟨s0, s1⟩
              go_simp
              with_reducible rfl
             rotate_left
             ·simp only [Act.put, s1, s2, s3, q0d, q0e]
              rfl
             refine q0n (i := 13) (N := some 155) (v := ?_) (a' := ?_) #[false, true, true, true, true, false, true, true, false, false, true, true, true, true, false, false, false] rfl rfl (by kernel_rfl) (fun _ _ _ h => h) (Or.inl ⟨by rfl, ?_⟩) ?_ ?_
             rotate_left
             ·intro w'
              go_simp
              with_reducible rfl
             rotate_left
             ·simp only [Act.put, s1, s2, s3, q0d, q0e]
              rfl
             refine join_ (σ := Value × Value × Value) 4 #[true, true, true, true, true, true, true, true, true, false, true, true, true, true, false, false, false] (fun s => [(142, s.1), (147, s.2.1), (150, s.2.2)]) (fun s w' => Aside0 (Below w7.heap.size w7 w') ∧ Aside0 (InEd w7 w' T g gx b cap o q2 e1 #[.int .i64 (q00 o e1).f0, .string (q00 o e1).f1, .slice A2 (q00 o e1).f2.length c2, .string (q00 o e1).f3, .int .i64 (q00 o e1).f4, .slice A5 (q00 o e1).f5.length c5] A2 c2 A5 c5) ∧ Aside0 ((Kd.int .i64).R 3 w' w7.heap.size (fun k => T ≤ k ∧ k ≠ gx) s.2.1 ((q00 o e1).f5.take i.toNat)) ∧ Aside0 ((Kd.int .i64).R 3 w' w7.heap.size (fun k => T ≤ k ∧ k ≠ gx) s.2.2 [e2])) ?_ ?_
             rotate_left
             ·intro hCont
              refine two_ (i := 0) (j := 8) (Ni := some 142) (Nj := some 150) #[true, true, true, true, true, false, true, true, false, false, true, true, true, true, false, false, false] #[false, true, true, true, true, false, true, true, true, false, true, true, true, true, false, false, false] rfl rfl rfl rfl (by kernel_rfl) (by decide) (by decide) (fun K hK => ?_) (fun K hK => ?_)
              ·skip
               refine Kd.R_lit_step (Kd.int .i64) (w0 := w7) w7.heap.size 3 ?hg (N := 142) ?hd (xs := ([] : List Int)) (inner := []) (ok := (fun k => T ≤ k ∧ k ≠ gx)) (okp := fun _ => False) ?hr ?hp (fun _ hk => hk.elim) ?hf ?hB ?hS (by simp) ?_
               (case hd => rfl)
               (case hg => rfl)
               (case hr => first | (go_simp; done) | (go_simp; rfl))
               (case hp => exact Reps.none _ _)
               (case hf => exact ⟨Nat.le_of_lt (Nat.lt_of_le_of_lt HIc.out.tg (q0a HIc.out.blk)), Nat.ne_of_gt (q0a HIc.out.blk)⟩)
               (case hB => exact (z8 HBc.out))
               (case hS => exact q0c (z8 HBc.out))
               intro v42 w42 ho hb hg hat
               have n_HB := aS hb
               have n_HI := aS (InEd.grown (by repeat (first | exact HIc.out | refine InEd.below ?_ (q0i (Below.refl _ _) _) | refine InEd.below ?_ (q0g (Below.refl _ _)))) hg (fun k hk => by cases hk))
               have n_HA := aS ho
               clear hb hg hat ho HBc HIc
               have HBc := n_HB
               have HIc := n_HI
               have HAc := n_HA
               clear n_HB n_HI n_HA
               refine hK.out _ _ ⟨(bk6 HIc.out.2.1).2.2.2.2.2.1, (bk12 (q02 EK0.out HBc.out)).2.2.1⟩ (fun hHeld => ?_)
               clear hK K
               refine q1n (a' := ?_) ?_ ?_
               rotate_left
               ·show Act.put _ (some 142) _ = _
                simp only [Act.put, s1, s2, s3, q0d, q0e]
                rfl
               refine two_ (i := 5) (j := 8) (Ni := some 147) (Nj := some 150) #[true, true, true, true, true, true, true, true, false, false, true, true, true, true, false, false, false] #[true, true, true, true, true, false, true, true, true, false, true, true, true, true, false, false, false] rfl rfl rfl rfl (by kernel_rfl) (by decide) (by decide) (fun K hK => ?_) (fun K hK => ?_)
               ·skip
                refine Kd.R_append_rows_step (Kd.int .i64) (w0 := w7) w7.heap.size (by rfl) (.tmp 142) (.tmp 146) 31 3 (.int .i64 0) 8 rfl Tryd.underlying31 info3 rfl (by decide) (by omega) v42 ([] : List Int) ((q00 o e1).f5.take i.toNat) _ _ _ (fun k => T ≤ k ∧ k ≠ gx) (fun _ => False) rfl rfl ?aO ?aR (fun _ _ h => h) (fun _ h => h.elim) ?aF ?aB ?aS ?aL ?_
                (case aR => exact (by have h_ := Kd.C_of_reads (h1 := fun _ => rfl) (HA1.out _ (Kd.reads_of_C (InEd.kids HIc.out HN0.out HN1.out).1)); first | exact h_ | (rw [List.length_take] at h_; exact h_)))
                (case aB => exact (z8 HBc.out))
                (case aF => exact fun k hk => (by have h1_ := q0a HIc.out.blk; have h2_ := HIc.out.tg; exact ⟨by omega, by omega⟩))
                (case aO => exact (by repeat (first | exact HAc.out | apply rA | apply rN | apply rD)))
                (case aS => exact q0c (z8 HBc.out))
                (case aL => have h_ := HLT.out; have h2_ := HI2.out; have h3_ := HI1.out; simp only [List.length_nil, Nat.zero_add]; omega)
                intro v47 w47 ho hb hg hat
                rw [List.nil_append] at ho
                have n_HB := aS hb
                have n_HI := aS (InEd.grown (by repeat (first | exact HIc.out | refine InEd.below ?_ (q0i (Below.refl _ _) _) | refine InEd.below ?_ (q0g (Below.refl _ _)))) hg (fun k hk => HAc.out.1 k hk))
                have n_HA := aS ho
                clear hb hg hat ho HBc HIc HAc
                have HBc := n_HB
                have HIc := n_HI
                have HAc := n_HA
                clear n_HB n_HI n_HA
                refine hK.out _ _ ⟨(bk6 HIc.out.2.1).2.2.2.2.2.1, (bk12 (q02 EK0.out HBc.out)).2.2.1⟩ (fun hHeld => ?_)
                clear hK K
                refine q1n (a' := ?_) ?_ ?_
                rotate_left
                ·show Act.put _ (some 147) _ = _
                 simp only [Act.put, s1, s2, s3, q0d, q0e]
                 rfl
                refine one_ (i := 8) (N := some 150) #[true, true, true, true, true, true, true, true, true, false, true, true, true, true, false, false, false] rfl rfl (by kernel_rfl) (by decide) (fun K hK => ?_)
                refine Kd.R_lit_step (Kd.int .i64) (w0 := w7) w7.heap.size 3 ?hg (N := 150) ?hd (xs := [e2]) (inner := [.int .i64 e2]) (ok := (fun k => T ≤ k ∧ k ≠ gx)) (okp := fun _ => False) ?hr ?hp (fun _ hk => hk.elim) ?hf ?hB ?hS (by simp) ?_
                (case hd => rfl)
                (case hg => rfl)
                (case hr => first | (go_simp; done) | (go_simp; rfl))
                (case hp => exact Reps.one (by first | rfl | exact rfl | (simp [Kd.M, Kd.int]; done)) (Reps.none _ _))
                (case hf => exact ⟨Nat.le_of_lt (Nat.lt_of_le_of_lt HIc.out.tg (q0a HIc.out.blk)), Nat.ne_of_gt (q0a HIc.out.blk)⟩)
                (case hB => exact (z8 HBc.out))
                (case hS => exact q0c (z8 HBc.out))
                intro v50 w50 ho hb hg hat
                have n_HB := aS hb
                have n_HI := aS (InEd.grown (by repeat (first | exact HIc.out | refine InEd.below ?_ (q0i (Below.refl _ _) _) | refine InEd.below ?_ (q0g (Below.refl _ _)))) hg (fun k hk => by cases hk))
                have n_HL := aS ho
                have n_HA := aS (Kd.R_grown2 (by repeat (first | exact HAc.out | apply rA | apply rN | apply rD)) rfl hg (fun k hk => by cases hk))
                have n_HN := aS (show ∀ k, v47.ownBlock = some k → some k ≠ v50.ownBlock from fun k hk e_ => by obtain ⟨b_, h1_, h2_⟩ := hat; have h3_ := Kd.R_lt (by repeat (first | exact HAc.out | apply rA | apply rN | apply rD)) k hk; rw [h1_] at e_; injection e_ with e_; omega)
                clear hb hg hat ho HBc HIc HAc
                have HBc := n_HB
                have HIc := n_HI
                have HAc := n_HA
                have HLc := n_HL
                have HNc := n_HN
                clear n_HB n_HI n_HA n_HL n_HN
                refine hK.out _ _ ⟨(bk6 HIc.out.2.1).2.2.2.2.2.1, (bk12 (q02 EK0.out HBc.out)).2.2.1⟩ (fun hHeld => ?_)
                clear hK K
                refine q1n (a' := ?_) ?_ ?_
                rotate_left
                ·show Act.put _ (some 150) _ = _
                 simp only [Act.put, s1, s2, s3, q0d, q0e]
                 rfl
                exact q1n (by simp only [putAll, Act.put, List.setIfInBounds_toArray, List.set_cons_zero, List.set_cons_succ]) (hCont (v42, v47, v50) _ ⟨HBc, HIc, HAc, HLc⟩)
               ·skip
                refine Kd.R_lit_step (Kd.int .i64) (w0 := w7) w7.heap.size 3 ?hg (N := 150) ?hd (xs := [e2]) (inner := [.int .i64 e2]) (ok := (fun k => T ≤ k ∧ k ≠ gx)) (okp := fun _ => False) ?hr ?hp (fun _ hk => hk.elim) ?hf ?hB ?hS (by simp) ?_
                (case hd => rfl)
                (case hg => rfl)
                (case hr => first | (go_simp; done) | (go_simp; rfl))
                (case hp => exact Reps.one (by first | rfl | exact rfl | (simp [Kd.M, Kd.int]; done)) (Reps.none _ _))
                (case hf => exact ⟨Nat.le_of_lt (Nat.lt_of_le_of_lt HIc.out.tg (q0a HIc.out.blk)), Nat.ne_of_gt (q0a HIc.out.blk)⟩)
                (case hB => exact (z8 HBc.out))
                (case hS => exact q0c (z8 HBc.out))
                intro v50 w50 ho hb hg hat
                have n_HB := aS hb
                have n_HI := aS (InEd.grown (by repeat (first | exact HIc.out | refine InEd.below ?_ (q0i (Below.refl _ _) _) | refine InEd.below ?_ (q0g (Below.refl _ _)))) hg (fun k hk => by cases hk))
                have n_HL := aS ho
                have n_HA := aS (Kd.R_grown2 (by repeat (first | exact HAc.out | apply rA | apply rN | apply rD)) rfl hg (fun k hk => by cases hk))
                have n_HN := aS (show ∀ k, v42.ownBlock = some k → some k ≠ v50.ownBlock from fun k hk e_ => by obtain ⟨b_, h1_, h2_⟩ := hat; have h3_ := Kd.R_lt (by repeat (first | exact HAc.out | apply rA | apply rN | apply rD)) k hk; rw [h1_] at e_; injection e_ with e_; omega)
                clear hb hg hat ho HBc HIc HAc
                have HBc := n_HB
                have HIc := n_HI
                have HAc := n_HA
                have HLc := n_HL
                have HNc := n_HN
                clear n_HB n_HI n_HA n_HL n_HN
                refine hK.out _ _ ⟨(bk6 HIc.out.2.1).2.2.2.2.2.1, (bk12 (q02 EK0.out HBc.out)).2.2.1⟩ (fun hHeld => ?_)
                clear hK K
                refine q1n (a' := ?_) ?_ ?_
                rotate_left
                ·show Act.put _ (some 150) _ = _
                 simp only [Act.put, s1, s2, s3, q0d, q0e]
                 rfl
                refine one_ (i := 5) (N := some 147) #[true, true, true, true, true, true, true, true, true, false, true, true, true, true, false, false, false] rfl rfl (by kernel_rfl) (by decide) (fun K hK => ?_)
                refine Kd.R_append_rows_step (Kd.int .i64) (w0 := w7) w7.heap.size (by rfl) (.tmp 142) (.tmp 146) 31 3 (.int .i64 0) 8 rfl Tryd.underlying31 info3 rfl (by decide) (by omega) v42 ([] : List Int) ((q00 o e1).f5.take i.toNat) _ _ _ (fun k => T ≤ k ∧ k ≠ gx) (fun _ => False) rfl rfl ?aO ?aR (fun _ _ h => h) (fun _ h => h.elim) ?aF ?aB ?aS ?aL ?_
                (case aR => exact (by have h_ := Kd.C_of_reads (h1 := fun _ => rfl) (HA1.out _ (Kd.reads_of_C (InEd.kids HIc.out HN0.out HN1.out).1)); first | exact h_ | (rw [List.length_take] at h_; exact h_)))
                (case aB => exact (z8 HBc.out))
                (case aF => exact fun k hk => (by have h1_ := q0a HIc.out.blk; have h2_ := HIc.out.tg; exact ⟨by omega, by omega⟩))
                (case aO => exact (by repeat (first | exact HAc.out | apply rA | apply rN | apply rD)))
                (case aS => exact q0c (z8 HBc.out))
                (case aL => have h_ := HLT.out; have h2_ := HI2.out; have h3_ := HI1.out; simp only [List.length_nil, Nat.zero_add]; omega)
                intro v47 w47 ho hb hg hat
                rw [List.nil_append] at ho
                have n_HB := aS hb
                have n_HI := aS (InEd.grown (by repeat (first | exact HIc.out | refine InEd.below ?_ (q0i (Below.refl _ _) _) | refine InEd.below ?_ (q0g (Below.refl _ _)))) hg (fun k hk => HAc.out.1 k hk))
                have n_HA := aS ho
                have n_HL := aS (Kd.R_grown2 (by repeat (first | exact HLc.out | apply rA | apply rN | apply rD)) rfl hg HNc.out)
                have n_HN := aS (show ∀ k, v47.ownBlock = some k → some k ≠ v50.ownBlock from fun k hk e_ => by rcases hat with h1_ | ⟨b_, h1_, h2_⟩; exact HNc.out k (h1_.symm.trans hk) e_; have h3_ := Kd.R_lt (by repeat (first | exact HLc.out | apply rA | apply rN | apply rD)) k e_.symm; rw [h1_] at hk; injection hk with hk; omega)
                clear hb hg hat ho HBc HIc HAc HLc HNc
                have HBc := n_HB
                have HIc := n_HI
                have HAc := n_HA
                have HLc := n_HL
                have HNc := n_HN
                clear n_HB n_HI n_HA n_HL n_HN
                refine hK.out _ _ ⟨(bk6 HIc.out.2.1).2.2.2.2.2.1, (bk12 (q02 EK0.out HBc.out)).2.2.1⟩ (fun hHeld => ?_)
                clear hK K
                refine q1n (a' := ?_) ?_ ?_
                rotate_left
                ·show Act.put _ (some 147) _ = _
                 simp only [Act.put, s1, s2, s3, q0d, q0e]
                 rfl
                exact q1n (by simp only [putAll, Act.put, List.setIfInBounds_toArray, List.set_cons_zero, List.set_cons_succ]) (hCont (v42, v47, v50) _ ⟨HBc, HIc, HAc, HLc⟩)
              ·skip
               refine Kd.R_lit_step (Kd.int .i64) (w0 := w7) w7.heap.size 3 ?hg (N := 150) ?hd (xs := [e2]) (inner := [.int .i64 e2]) (ok := (fun k => T ≤ k ∧ k ≠ gx)) (okp := fun _ => False) ?hr ?hp (fun _ hk => hk.elim) ?hf ?hB ?hS (by simp) ?_
               (case hd => rfl)
               (case hg => rfl)
               (case hr => first | (go_simp; done) | (go_simp; rfl))
               (case hp => exact Reps.one (by first | rfl | exact rfl | (simp [Kd.M, Kd.int]; done)) (Reps.none _ _))
               (case hf => exact ⟨Nat.le_of_lt (Nat.lt_of_le_of_lt HIc.out.tg (q0a HIc.out.blk)), Nat.ne_of_gt (q0a HIc.out.blk)⟩)
               (case hB => exact (z8 HBc.out))
               (case hS => exact q0c (z8 HBc.out))
               intro v50 w50 ho hb hg hat
               have n_HB := aS hb
               have n_HI := aS (InEd.grown (by repeat (first | exact HIc.out | refine InEd.below ?_ (q0i (Below.refl _ _) _) | refine InEd.below ?_ (q0g (Below.refl _ _)))) hg (fun k hk => by cases hk))
               have n_HL := aS ho
               clear hb hg hat ho HBc HIc
               have HBc := n_HB
               have HIc := n_HI
               have HLc := n_HL
               clear n_HB n_HI n_HL
               refine hK.out _ _ ⟨(bk6 HIc.out.2.1).2.2.2.2.2.1, (bk12 (q02 EK0.out HBc.out)).2.2.1⟩ (fun hHeld => ?_)
               clear hK K
               refine q1n (a' := ?_) ?_ ?_
               rotate_left
               ·show Act.put _ (some 150) _ = _
                simp only [Act.put, s1, s2, s3, q0d, q0e]
                rfl
               refine one_ (i := 0) (N := some 142) #[true, true, true, true, true, false, true, true, true, false, true, true, true, true, false, false, false] rfl rfl (by kernel_rfl) (by decide) (fun K hK => ?_)
               refine Kd.R_lit_step (Kd.int .i64) (w0 := w7) w7.heap.size 3 ?hg (N := 142) ?hd (xs := ([] : List Int)) (inner := []) (ok := (fun k => T ≤ k ∧ k ≠ gx)) (okp := fun _ => False) ?hr ?hp (fun _ hk => hk.elim) ?hf ?hB ?hS (by simp) ?_
               (case hd => rfl)
               (case hg => rfl)
               (case hr => first | (go_simp; done) | (go_simp; rfl))
               (case hp => exact Reps.none _ _)
               (case hf => exact ⟨Nat.le_of_lt (Nat.lt_of_le_of_lt HIc.out.tg (q0a HIc.out.blk)), Nat.ne_of_gt (q0a HIc.out.blk)⟩)
               (case hB => exact (z8 HBc.out))
               (case hS => exact q0c (z8 HBc.out))
               intro v42 w42 ho hb hg hat
               have n_HB := aS hb
               have n_HI := aS (InEd.grown (by repeat (first | exact HIc.out | refine InEd.below ?_ (q0i (Below.refl _ _) _) | refine InEd.below ?_ (q0g (Below.refl _ _)))) hg (fun k hk => by cases hk))
               have n_HA := aS ho
               have n_HL := aS (Kd.R_grown2 (by repeat (first | exact HLc.out | apply rA | apply rN | apply rD)) rfl hg (fun k hk => by cases hk))
               have n_HN := aS (show ∀ k, v42.ownBlock = some k → some k ≠ v50.ownBlock from fun k hk e_ => by obtain ⟨b_, h1_, h2_⟩ := hat; have h3_ := Kd.R_lt (by repeat (first | exact HLc.out | apply rA | apply rN | apply rD)) k e_.symm; rw [h1_] at hk; injection hk with hk; omega)
               clear hb hg hat ho HBc HIc HLc
               have HBc := n_HB
               have HIc := n_HI
               have HAc := n_HA
               have HLc := n_HL
               have HNc := n_HN
               clear n_HB n_HI n_HA n_HL n_HN
               refine hK.out _ _ ⟨(bk6 HIc.out.2.1).2.2.2.2.2.1, (bk12 (q02 EK0.out HBc.out)).2.2.1⟩ (fun hHeld => ?_)
               clear hK K
               refine q1n (a' := ?_) ?_ ?_
               rotate_left
               ·show Act.put _ (some 142) _ = _
                simp only [Act.put, s1, s2, s3, q0d, q0e]
                rfl
               refine one_ (i := 5) (N := some 147) #[true, true, true, true, true, true, true, true, true, false, true, true, true, true, false, false, false] rfl rfl (by kernel_rfl) (by decide) (fun K hK => ?_)
               refine Kd.R_append_rows_step (Kd.int .i64) (w0 := w7) w7.heap.size (by rfl) (.tmp 142) (.tmp 146) 31 3 (.int .i64 0) 8 rfl Tryd.underlying31 info3 rfl (by decide) (by omega) v42 ([] : List Int) ((q00 o e1).f5.take i.toNat) _ _ _ (fun k => T ≤ k ∧ k ≠ gx) (fun _ => False) rfl rfl ?aO ?aR (fun _ _ h => h) (fun _ h => h.elim) ?aF ?aB ?aS ?aL ?_
               (case aR => exact (by have h_ := Kd.C_of_reads (h1 := fun _ => rfl) (HA1.out _ (Kd.reads_of_C (InEd.kids HIc.out HN0.out HN1.out).1)); first | exact h_ | (rw [List.length_take] at h_; exact h_)))
               (case aB => exact (z8 HBc.out))
               (case aF => exact fun k hk => (by have h1_ := q0a HIc.out.blk; have h2_ := HIc.out.tg; exact ⟨by omega, by omega⟩))
               (case aO => exact (by repeat (first | exact HAc.out | apply rA | apply rN | apply rD)))
               (case aS => exact q0c (z8 HBc.out))
               (case aL => have h_ := HLT.out; have h2_ := HI2.out; have h3_ := HI1.out; simp only [List.length_nil, Nat.zero_add]; omega)
               intro v47 w47 ho hb hg hat
               rw [List.nil_append] at ho
               have n_HB := aS hb
               have n_HI := aS (InEd.grown (by repeat (first | exact HIc.out | refine InEd.below ?_ (q0i (Below.refl _ _) _) | refine InEd.below ?_ (q0g (Below.refl _ _)))) hg (fun k hk => HAc.out.1 k hk))
               have n_HA := aS ho
               have n_HL := aS (Kd.R_grown2 (by repeat (first | exact HLc.out | apply rA | apply rN | apply rD)) rfl hg HNc.out)
               have n_HN := aS (show ∀ k, v47.ownBlock = some k → some k ≠ v50.ownBlock from fun k hk e_ => by rcases hat with h1_ | ⟨b_, h1_, h2_⟩; exact HNc.out k (h1_.symm.trans hk) e_; have h3_ := Kd.R_lt (by repeat (first | exact HLc.out | apply rA | apply rN | apply rD)) k e_.symm; rw [h1_] at hk; injection hk with hk; omega)
               clear hb hg hat ho HBc HIc HAc HLc HNc
               have HBc := n_HB
               have HIc := n_HI
               have HAc := n_HA
               have HLc := n_HL
               have HNc := n_HN
               clear n_HB n_HI n_HA n_HL n_HN
               refine hK.out _ _ ⟨(bk6 HIc.out.2.1).2.2.2.2.2.1, (bk12 (q02 EK0.out HBc.out)).2.2.1⟩ (fun hHeld => ?_)
               clear hK K
               refine q1n (a' := ?_) ?_ ?_
               rotate_left
               ·show Act.put _ (some 147) _ = _
                simp only [Act.put, s1, s2, s3, q0d, q0e]
                rfl
               exact q1n (by simp only [putAll, Act.put, List.setIfInBounds_toArray, List.set_cons_zero, List.set_cons_succ]) (hCont (v42, v47, v50) _ ⟨HBc, HIc, HAc, HLc⟩)
             rintro ⟨v42, v47, v50⟩ w32 ⟨HBc, HIc, HAc, HLc⟩
             have hHeld : w32.cell? ⟨gx, 5, none⟩ = some (.slice A5 (q00 o e1).f5.length c5) ∧ w32.cell? ⟨ge, 2, none⟩ = some (.int .i64 e2) := ⟨(bk6 HIc.out.2.1).2.2.2.2.2.1, (bk12 (q02 EK0.out HBc.out)).2.2.1⟩
             refine q1n (a' := ?_) ?_ ?_
             rotate_left
             ·simp only [putAll, Act.put, List.setIfInBounds_toArray, List.set_cons_zero, List.set_cons_succ]
              rfl
             refine one_ (i := 9) (N := some 151) #[true, true, true, true, true, true, true, true, true, true, true, true, true, true, false, false, false] rfl rfl (by kernel_rfl) (by decide) (fun K hK => ?_)
             obtain ⟨A50, c50, e50_⟩ := Kd.R_slice HLc.out
             subst e50_
             refine Kd.R_append_rows_step (Kd.int .i64) (w0 := w7) w7.heap.size (by rfl) (.tmp 147) (.tmp 150) 31 3 (.int .i64 0) 8 rfl Tryd.underlying31 info3 rfl (by decide) (by omega) v47 ((q00 o e1).f5.take i.toNat) [e2] _ _ _ (fun k => T ≤ k ∧ k ≠ gx) (fun _ => False) rfl rfl ?aO ?aR (fun _ _ h => h) (fun _ h => h.elim) ?aF ?aB ?aS ?aL ?_
             (case aR => exact (Kd.R_reads' (by repeat (first | exact HLc.out | apply rA | apply rN | apply rD))).2.2)
             (case aB => exact (z8 HBc.out))
             (case aF => exact fun k hk => (by have h1_ := q0a HIc.out.blk; have h2_ := HIc.out.tg; exact ⟨by omega, by omega⟩))
             (case aO => exact (by repeat (first | exact HAc.out | apply rA | apply rN | apply rD)))
             (case aS => exact q0c (z8 HBc.out))
             (case aL => have h_ := HLT.out; have h2_ := HI2.out; have h3_ := HI1.out; simp only [List.length_cons, List.length_nil]; omega)
             intro v51 w51 ho hb hg hat
             have n_HB := aS hb
             have n_HI := aS (InEd.grown (by repeat (first | exact HIc.out | refine InEd.below ?_ (q0i (Below.refl _ _) _) | refine InEd.below ?_ (q0g (Below.refl _ _)))) hg (fun k hk => HAc.out.1 k hk))
             have n_HA := aS ho
             clear hb hg hat ho HBc HIc HAc
             have HBc := n_HB
             have HIc := n_HI
             have HAc := n_HA
             clear n_HB n_HI n_HA
             clear HLc
             refine hK.out _ _ ⟨(bk6 HIc.out.2.1).2.2.2.2.2.1, (bk12 (q02 EK0.out HBc.out)).2.2.1⟩ (fun hHeld => ?_)
             clear hK K
             refine q1n (a' := ?_) ?_ ?_
             rotate_left
             ·show Act.put _ (some 151) _ = _
              simp only [Act.put, s1, s2, s3, q0d, q0e]
              rfl
             refine one_ (i := 14) (N := some 156) #[true, true, true, true, true, true, true, true, true, true, true, true, true, true, true, false, false] rfl rfl (by kernel_rfl) (by decide) (fun K hK => ?_)
             refine Kd.R_append_rows_step (Kd.int .i64) (w0 := w7) w7.heap.size (by rfl) (.tmp 151) (.tmp 155) 31 3 (.int .i64 0) 8 rfl Tryd.underlying31 info3 rfl (by decide) (by omega) v51 ((q00 o e1).f5.take i.toNat ++ [e2]) ((q00 o e1).f5.drop i.toNat) _ _ _ (fun k => T ≤ k ∧ k ≠ gx) (fun _ => False) rfl rfl ?aO ?aR (fun _ _ h => h) (fun _ h => h.elim) ?aF ?aB ?aS ?aL ?_
             (case aR => exact (by have h_ := Kd.C_of_reads (h1 := fun _ => rfl) (HA2.out _ (Kd.reads_of_C (InEd.kids HIc.out HN0.out HN1.out).1)); first | exact h_ | (rw [List.length_drop] at h_; exact h_)))
             (case aB => exact (z8 HBc.out))
             (case aF => exact fun k hk => (by have h1_ := q0a HIc.out.blk; have h2_ := HIc.out.tg; exact ⟨by omega, by omega⟩))
             (case aO => exact (by repeat (first | exact HAc.out | apply rA | apply rN | apply rD)))
             (case aS => exact q0c (z8 HBc.out))
             (case aL => have h_ := HLT.out; have h4_ := HLD.out; have h2_ := HI2.out; have h3_ := HI1.out; simp only [List.length_append, List.length_cons, List.length_nil]; omega)
             intro v56 w56 ho hb hg hat
             have n_HB := aS hb
             have n_HI := aS (InEd.grown (by repeat (first | exact HIc.out | refine InEd.below ?_ (q0i (Below.refl _ _) _) | refine InEd.below ?_ (q0g (Below.refl _ _)))) hg (fun k hk => HAc.out.1 k hk))
             have n_HA := aS ho
             clear hb hg hat ho HBc HIc HAc
             have HBc := n_HB
             have HIc := n_HI
             have HAc := n_HA
             clear n_HB n_HI n_HA
             obtain ⟨A56, c56, e56_⟩ := Kd.R_slice HAc.out
             generalize HN56_ : ((q00 o e1).f5.take i.toNat ++ [e2] ++ (q00 o e1).f5.drop i.toNat).length = n56 at e56_
             have HN56 := aS HN56_
             clear HN56_
             subst e56_
             have hxf := (bk6 HIc.out.2.1).2.2.2.2.2.2.2.2.2.2.2
             refine hK.out _ _ ⟨(bk6 HIc.out.2.1).2.2.2.2.2.1, (bk12 (q02 EK0.out HBc.out)).2.2.1⟩ (fun hHeld => ?_)
             clear hK K
             refine q1n (a' := ?_) ?_ ?_
             rotate_left
             ·show Act.put _ (some 156) _ = _
              simp only [Act.put, s1, s2, s3, q0d, q0e]
              rfl
             refine q0n (i := 15) (N := some 157) (v := ?_) (a' := ?_) #[true, true, true, true, true, true, true, true, true, true, true, true, true, true, true, true, false] rfl rfl (by kernel_rfl) (fun _ _ _ h => h) (Or.inl ⟨by rfl, ?_⟩) ?_ ?_
             rotate_left
             ·intro w'
              go_simp
              with_reducible rfl
             rotate_left
             ·simp only [Act.put, s1, s2, s3, q0d, q0e]
              rfl
             refine last_ (i := 16) (N := none) #[true, true, true, true, true, true, true, true, true, true, true, true, true, true, true, true, true] rfl rfl (by kernel_rfl) (by decide) (fun K hK => ?_)
             refine skip_ (w1 := ?_) (by rfl) rfl ?_ ?_
             rotate_left
             ·go_simp
              rfl
             refine hK.out _ _ ?_
             clear hK K
             refine done_ (by kernel_rfl) ?_
             all_goals
              have HI5 := aS (InEd.putx (cs' := #[.int .i64 (q00 o e1).f0, .string (q00 o e1).f1, .slice A2 (q00 o e1).f2.length c2, .string (q00 o e1).f3, .int .i64 (q00 o e1).f4, .slice A56 n56 c56]) HIc.out 5 (.slice A56 n56 c56) rfl)
              have HB5 := aS (q08 (j := 5) (v := .slice A56 n56 c56) HBc.out HIc.out.gxge)
              have HR5 := aS (Kd.R_far HAc.out (p := ⟨gx, 5, none⟩) (fun k hk e_ => hk.2 e_) (.slice A56 n56 c56))
              clear HIc HBc HAc hxf
              generalize w56.setCell ⟨gx, 5, none⟩ (.slice A56 n56 c56) = wk at HI5 HB5 HR5 ⊢
              obtain ⟨hz0, hz1, -, -⟩ := bk2 HI5.out.1.1
              have hqq_ := bk6 HI5.out.2.1
              obtain ⟨hq0, hq1, hq2, hq3, hq4, hq5, hqf0, hqf1, hqf2, hqf3, hqf4, hqf5⟩ := hqq_
              obtain ⟨ha0, ha1, ha2, ha3, ha4, ha5, ha6, ha7, ha8, ha9, ha10, ha11⟩ := bk12 (q02 EK0.out HB5.out)
              obtain ⟨_, _, _, _, _, _, _, _, y4, _, _, _, _, _, fz_⟩ := q0u.elem HI5.out.1 e2 HT0.out HT1.out
              have y4z := fz_ 4
              clear fz_
              have p0 := eq_true HT0.out
              have p1 := eq_true HT1.out
              go_upto_region 33 with (fail)
              have HNE := aS (show b ≠ gx from fun e_ => by have h1_ := HI5.out.1.ge.2.2; have h2_ := HI5.out.tg; omega)
              have HO3 := aS (q0u.par HI5.out.1 e2 HT0.out HT1.out e1)
              have XK3 : Aside0 ((wk.setCell ⟨b, e2.toNat * 6 + 4, none⟩ (.int .i64 e1)).heap[gx]? = some (.cells #[.int .i64 (q00 o e1).f0, .string (q00 o e1).f1, .slice A2 (q00 o e1).f2.length c2, .string (q00 o e1).f3, .int .i64 (q00 o e1).f4, .slice A56 n56 c56] 43 (0, 0))) := ⟨(Below.heap_setCell wk _ _ gx (fun e_ => HNE.out e_.symm)).trans HI5.out.blk⟩
              have HB6 := aS (q08 (j := e2.toNat * 6 + 4) (v := .int .i64 e1) HB5.out HI5.out.1.ge.1)
              have R23 : Aside0 ((wk.setCell ⟨b, e2.toNat * 6 + 4, none⟩ (.int .i64 e1)).cell? ⟨b, e1.toNat * 6 + 2, none⟩ = some (.slice A2 (q00 o e1).f2.length c2)) := ⟨(World.cell?_setCell_other _ _ _ _ (by intro e_; injection e_ with _ e_; omega)).trans HI5.out.2.2.1⟩
              have HR6 := aS (Kd.R_far HR5.out (p := ⟨b, e2.toNat * 6 + 4, none⟩) (fun k hk e_ => by have h1_ := hk.1; have h2_ := HI5.out.1.ge.2.2; have e_ : k = b := e_; omega) (.int .i64 e1))
              have HTG := aS (show T ≤ gx ∧ g < T from ⟨HI5.out.tg, HI5.out.2.2.2.2.2⟩)
              have HLN : Aside0 (e1 < ((o.set e2.toNat { (q00 o e2) with f4 := e1 }).length : Int)) := ⟨by rw [List.length_set]; exact HN1.out⟩
              have HRX := aS (rd_set_ne o e2 { (q00 o e2) with f4 := e1 } e1 HT0.out HN0.out HT2.out)
              clear hz0 hz1 hq0 hq1 hq2 hq3 hq4 hq5 hqf0 hqf1 hqf2 hqf3 hqf4 hqf5 ha0 ha1 ha2 ha3 ha4 ha5 ha6 ha7 ha8 ha9 ha10 ha11
              clear y4 y4z p0 p1 HI5 HB5 HR5
              generalize wk.setCell ⟨b, e2.toNat * 6 + 4, none⟩ (.int .i64 e1) = wt at HO3 XK3 HB6 R23 HR6 ⊢
              have ZK3 : Aside0 (wt.heap[g]? = some (.cells #[.slice (some ⟨b, 0, none⟩) o.length cap, .bool q2] 24 (0, 0))) := ⟨by have h_ := HO3.out.1; rw [List.length_set] at h_; exact h_⟩
              have HR7 : Aside0 ((Kd.int .i64).R 3 wt w7.heap.size (fun k => T ≤ k ∧ k ≠ gx) (.slice A56 n56 c56) ((q00 o e1).f5.take i.toNat ++ e2 :: (q00 o e1).f5.drop i.toNat)) := ⟨by have h_ := HR6.out; rw [List.append_assoc] at h_; exact h_⟩
              obtain ⟨hz0, hz1, -, -⟩ := bk2 ZK3.out
              have hqq_ := bk6 XK3.out
              obtain ⟨hq0, hq1, hq2, hq3, hq4, hq5, hqf0, hqf1, hqf2, hqf3, hqf4, hqf5⟩ := hqq_
              obtain ⟨ha0, ha1, ha2, ha3, ha4, ha5, ha6, ha7, ha8, ha9, ha10, ha11⟩ := bk12 (q02 EK0.out HB6.out)
              go_upto_region 37 with (fail)
              have HTH := aS (q0u.there HO3.out e1 HN0.out HLN.out)
              have HW9 := aS (q0u.whole HO3.out (Nat.le_trans HTG.out.1 (Nat.le_of_lt (q0a XK3.out))) e1 HN0.out HLN.out { (q00 o e1) with f5 := (q00 o e1).f5.take i.toNat ++ e2 :: (q00 o e1).f5.drop i.toNat } (.slice A2 (q00 o e1).f2.length c2) (.slice A56 n56 c56) (.inl ⟨R23.out, by rw [HRX.out]⟩) (.inr (Kd.R_mono (Kd.R_bound HR7.out) (fun k hk => ⟨hk.1.1, hk.2.2.1, fun e_ => by have h1_ := hk.1.1; have h2_ := HTG.out.2; omega⟩))))
              have HB9_ := aS (q1r HW9.out.ge.1 [.int .i64 (q00 o e1).f0, .string (q00 o e1).f1, .slice A2 (q00 o e1).f2.length c2, .string (q00 o e1).f3, .int .i64 (q00 o e1).f4, .slice A56 n56 c56] (e1.toNat * 6) HB6.out)
              go_wp2_with (refine wpList_store_mid (by rfl) 43 (.tmp 198) (.tmp 197) (by rfl) b (e1.toNat * 6) #[.int .i64 (q00 o e1).f0, .string (q00 o e1).f1, .slice A2 (q00 o e1).f2.length c2, .string (q00 o e1).f3, .int .i64 (q00 o e1).f4, .slice A56 n56 c56] ?hx ?hy ?hT ?hI ?h1 ?_; go_must ((case hx => rfl); (case hy => rfl); (case hT => exact HTH.out); (case hI => kernel_rfl); (case h1 => first | rfl | (simp [Value.oneCell']; done) | (simp; done) | decide)))
              go_meet
              exact ⟨rfl, ⟨⟨_, _, _, HW9.out⟩⟩, HB9_⟩
          ·rw [if_neg d5] at hm
           have d5b : (e0 == 5) = false := beq_eq_false_iff_ne.mpr d5
           clear d5
           by_cases d6 : e0 = 6
           ·rw [if_pos d6] at hm
            have d6b : (e0 == 6) = true := beq_iff_eq.mpr d6
            clear d6
            as_aux_lemma =>
             refine iGp hm ?_
             clear hm
             intro ⟨t0, t1, t2⟩ hm
             have HT0 := aS t0
             have HT1 := aS t1
             have HT2 := aS t2
             obtain ⟨i, hi, hm⟩ := Option.bind_eq_some_iff.1 hm
             obtain ⟨l, hl, hm⟩ := Option.bind_eq_some_iff.1 hm
             have HI := aS hi
             have HLL := aS hl
             clear t0 t1 t2 hi hl
             go_upto_region 35 with (fail)
             obtain ⟨P2, d2, P5, d5, -, -, -, -, -, y5, -, -, l5, C5, -⟩ := q0u.elem HIE1.out.1 (q00 o e1).f4 HT0.out HT1.out
             have p0 := eq_true HT0.out
             have p1 := eq_true HT1.out
             simp only [Option.some.injEq] at hm
             subst hm
             clear hz1 hq0 hq1 hq2 hq3 hq4 hq5 hqf0 hqf1 hqf2 hqf3 hqf4 hqf5 ha0 ha2 ha3 ha4 ha5 ha6 ha7 ha8 ha9 ha10 ha11
             refine start_ (n := 22) (S := fun w' => w'.cell? ⟨g, 0, none⟩ = some (.slice (some ⟨b, 0, none⟩) o.length cap) ∧ w'.cell? ⟨b, (q00 o e1).f4.toNat * 6 + 5, none⟩ = some (.slice P5 (q00 o (q00 o e1).f4).f5.length d5) ∧ w'.cell? ⟨ge, 1, none⟩ = some (.int .i64 e1)) (ds := [21]) #[false, false, false, false, false, false, false, false, false, false, false, false, false, false, false, false, false, false, false, false, false, false] (by kernel_rfl) rfl rfl ⟨hz0, y5, ha1⟩ (fun hHeld => ?_)
             refine q0n (i := 0) (N := some 171) (v := ?_) (a' := ?_) #[true, false, false, false, false, false, false, false, false, false, false, false, false, false, false, false, false, false, false, false, false, false] rfl rfl (by kernel_rfl) (fun _ _ _ h => h) (Or.inl ⟨by rfl, ?_⟩) ?_ ?_
             rotate_left
             ·intro w'
              go_simp
              with_reducible rfl
             rotate_left
             ·simp only [Act.put, s1, s2, s3, q0d, q0e]
              rfl
             refine q0n (i := 2) (N := some 173) (v := ?_) (a' := ?_) #[true, false, true, false, false, false, false, false, false, false, false, false, false, false, false, false, false, false, false, false, false, false] rfl rfl (by kernel_rfl) (fun _ _ _ h => h) (Or.inl ⟨by rfl, ?_⟩) ?_ ?_
             rotate_left
             ·intro w'
              go_simp
              with_reducible rfl
             rotate_left
             ·simp only [Act.put, s1, s2, s3, q0d, q0e]
              rfl
             refine q0n (i := 3) (N := some 174) (v := ?_) (a' := ?_) #[true, false, true, true, false, false, false, false, false, false, false, false, false, false, false, false, false, false, false, false, false, false] rfl rfl (by kernel_rfl) (fun _ _ _ h => h) (Or.inl ⟨by rfl, ?_⟩) ?_ ?_
             rotate_left
             ·intro w'
              go_simp
              with_reducible rfl
             rotate_left
             ·simp only [Act.put, s1, s2, s3, q0d, q0e]
              rfl
             refine q0n (i := 5) (N := some 176) (v := ?_) (a' := ?_) #[true, false, true, true, false, true, false, false, false, false, false, false, false, false, false, false, false, false, false, false, false, false] rfl rfl (by kernel_rfl) (fun _ _ _ h => h) (Or.inl ⟨by rfl, ?_⟩) ?_ ?_
             rotate_left
             ·intro w'
              go_simp
              with_reducible rfl
             rotate_left
             ·simp only [Act.put, s1, s2, s3, q0d, q0e]
              rfl
             refine q0n (i := 9) (N := some 180) (v := ?_) (a' := ?_) #[true, false, true, true, false, true, false, false, false, true, false, false, false, false, false, false, false, false, false, false, false, false] rfl rfl (by kernel_rfl) (fun _ _ _ h => h) (Or.inl ⟨by rfl, ?_⟩) ?_ ?_
             rotate_left
             ·intro w'
              go_simp
              with_reducible rfl
             rotate_left
             ·simp only [Act.put, s1, s2, s3, q0d, q0e]
              rfl
             refine q0n (i := 11) (N := some 182) (v := ?_) (a' := ?_) #[true, false, true, true, false, true, false, false, false, true, false, true, false, false, false, false, false, false, false, false, false, false] rfl rfl (by kernel_rfl) (fun _ _ _ h => h) (Or.inl ⟨by rfl, ?_⟩) ?_ ?_
             rotate_left
             ·intro w'
              go_simp
              with_reducible rfl
             rotate_left
             ·simp only [Act.put, s1, s2, s3, q0d, q0e]
              rfl
             refine q0n (i := 15) (N := some 186) (v := ?_) (a' := ?_) #[true, false, true, true, false, true, false, false, false, true, false, true, false, false, false, true, false, false, false, false, false, false] rfl rfl (by kernel_rfl) (fun _ _ _ h => h) (Or.inl ⟨by rfl, ?_⟩) ?_ ?_
             rotate_left
             ·intro w'
              go_simp
              with_reducible rfl
             rotate_left
             ·simp only [Act.put, s1, s2, s3, q0d, q0e]
              rfl
             refine take_ (i := 1) (N := some 172) (v := ?_) (a' := ?_) #[true, true, true, true, false, true, false, false, false, true, false, true, false, false, false, true, false, false, false, false, false, false] rfl rfl (by kernel_rfl) (fun _ _ _ h => h) (Or.inl ⟨by rfl, ?_⟩) hHeld ?_ ?_
             rotate_left
             ·rintro w' ⟨s0, s1, s2⟩
              go_simp
              with_reducible rfl
             rotate_left
             ·simp only [Act.put, s1, s2, s3, q0d, q0e]
              rfl
             refine take_ (i := 4) (N := some 175) (v := ?_) (a' := ?_) #[true, true, true, true, true, true, false, false, false, true, false, true, false, false, false, true, false, false, false, false, false, false] rfl rfl (by kernel_rfl) (fun _ _ _ h => h) (Or.inl ⟨by rfl, ?_⟩) hHeld ?_ ?_
             rotate_left
             ·rintro w' ⟨s0, s1, s2⟩
              go_simp
              with_reducible rfl
             rotate_left
             ·simp only [Act.put, s1, s2, s3, q0d, q0e]
              rfl
             refine q0n (i := 6) (N := some 177) (v := ?_) (a' := ?_) #[true, true, true, true, true, true, true, false, false, true, false, true, false, false, false, true, false, false, false, false, false, false] rfl rfl (by kernel_rfl) (fun _ _ _ h => h) (Or.inl ⟨by rfl, ?_⟩) ?_ ?_
             rotate_left
             ·intro w'
              go_simp
              with_reducible rfl
             rotate_left
             ·simp only [Act.put, s1, s2, s3, q0d, q0e]
              rfl
             refine q0n (i := 7) (N := some 178) (v := ?_) (a' := ?_) #[true, true, true, true, true, true, true, true, false, true, false, true, false, false, false, true, false, false, false, false, false, false] rfl rfl (by kernel_rfl) (fun _ _ _ h => h) (Or.inl ⟨by rfl, ?_⟩) ?_ ?_
             rotate_left
             ·intro w'
              go_simp
              with_reducible rfl
             rotate_left
             ·simp only [Act.put, s1, s2, s3, q0d, q0e]
              rfl
             refine take_ (i := 8) (N := some 179) (v := ?_) (a' := ?_) #[true, true, true, true, true, true, true, true, true, true, false, true, false, false, false, true, false, false, false, false, false, false] rfl rfl (by kernel_rfl) (fun _ _ _ h => h) (Or.inl ⟨by rfl, ?_⟩) hHeld ?_ ?_
             rotate_left
             ·rintro w' ⟨s0, s1, s2⟩
              go_simp
              with_reducible rfl
             rotate_left
             ·simp only [Act.put, s1, s2, s3, q0d, q0e]
              rfl
             refine take_ (i := 10) (N := some 181) (v := ?_) (a' := ?_) #[true, true, true, true, true, true, true, true, true, true, true, true, false, false, false, true, false, false, false, false, false, false] rfl rfl (by kernel_rfl) (fun _ _ _ h => h) (Or.inl ⟨by rfl, ?_⟩) hHeld ?_ ?_
             rotate_left
             ·rintro w' ⟨s0, s1, s2⟩
              go_simp
              with_reducible rfl
             rotate_left
             ·simp only [Act.put, s1, s2, s3, q0d, q0e]
              rfl
             refine q0n (i := 12) (N := some 183) (v := ?_) (a' := ?_) #[true, true, true, true, true, true, true, true, true, true, true, true, true, false, false, true, false, false, false, false, false, false] rfl rfl (by kernel_rfl) (fun _ _ _ h => h) (Or.inl ⟨by rfl, ?_⟩) ?_ ?_
             rotate_left
             ·intro w'
              go_simp
              with_reducible rfl
             rotate_left
             ·simp only [Act.put, s1, s2, s3, q0d, q0e]
              rfl
             refine q0n (i := 13) (N := some 184) (v := ?_) (a' := ?_) #[true, true, true, true, true, true, true, true, true, true, true, true, true, true, false, true, false, false, false, false, false, false] rfl rfl (by kernel_rfl) (fun _ _ _ h => h) (Or.inl ⟨by rfl, ?_⟩) ?_ ?_
             rotate_left
             ·intro w'
              go_simp
              with_reducible rfl
             rotate_left
             ·simp only [Act.put, s1, s2, s3, q0d, q0e]
              rfl
             refine take_ (i := 14) (N := some 185) (v := ?_) (a' := ?_) #[true, true, true, true, true, true, true, true, true, true, true, true, true, true, true, true, false, false, false, false, false, false] rfl rfl (by kernel_rfl) (fun _ _ _ h => h) (Or.inl ⟨by rfl, ?_⟩) hHeld ?_ ?_
             rotate_left
             ·rintro w' ⟨s0, s1, s2⟩
              go_simp
              with_reducible rfl
             rotate_left
             ·simp only [Act.put, s1, s2, s3, q0d, q0e]
              rfl
             refine take_ (i := 16) (N := some 187) (v := ?_) (a' := ?_) #[true, true, true, true, true, true, true, true, true, true, true, true, true, true, true, true, true, false, false, false, false, false] rfl rfl (by kernel_rfl) (fun _ _ _ h => h) (Or.inl ⟨by rfl, ?_⟩) hHeld ?_ ?_
             rotate_left
             ·rintro w' ⟨s0, s1, s2⟩
              go_simp
              with_reducible rfl
             rotate_left
             ·simp only [Act.put, s1, s2, s3, q0d, q0e]
              rfl
             refine one_ (i := 17) (N := some 188) #[true, true, true, true, true, true, true, true, true, true, true, true, true, true, true, true, true, true, false, false, false, false] rfl rfl (by kernel_rfl) (by decide) (fun K hK => ?_)
             refine goes_ Tryd.func74 (by kernel_rfl) rfl #[.slice P5 (q00 o (q00 o e1).f4).f5.length d5, .int .i64 e1] (by rfl) rfl rfl (by simp only [List.map_toArray, List.map_cons, List.map_nil]; rfl) ?_
             with_reducible refine (clerestoryref1_placeIn.calls k P5 d5 (q00 o (q00 o e1).f4).f5 e1 i _ (by first | exact C5.out | exact Kd.C_drew C5.out) l5.out HI.out).mono ?_
             rintro e w30 ⟨rfl, hd⟩
             refine ⟨_, rfl, ?_⟩
             have hbx := below_c (q0p hd)
             clear hd
             have HI3 := aS (InEd.below HIE1.out hbx)
             have HB3 := aS (q01 HB1.out hbx)
             have C53 := aS (Kd.C_below C5.out hbx)
             have y53 := (hbx.cell (World.block_lt_of_cell? _ _ y5)).trans y5
             clear hz0 y5 ha1 hbx
             have y5 := y53
             clear y53
             obtain ⟨hz0, -, -, -⟩ := bk2 HI3.out.1.1
             obtain ⟨-, ha1, -, -, -, -, -, -, -, -, -, -⟩ := bk12 (q02 EK0.out HB3.out)
             refine hK.out _ _ ⟨hz0, y5, ha1⟩ (fun hHeld => ?_)
             clear hK K
             refine q1n (a' := ?_) ?_ ?_
             rotate_left
             ·show Act.put _ (some 188) _ = _
              simp only [Act.put, s1, s2, s3, q0d, q0e]
              rfl
             refine one_ (i := 18) (N := some 189) #[true, true, true, true, true, true, true, true, true, true, true, true, true, true, true, true, true, true, true, false, false, false] rfl rfl (by kernel_rfl) (by decide) (fun K hK => ?_)
             refine goes_ Tryd.func108 (by kernel_rfl) rfl #[.slice P5 (q00 o (q00 o e1).f4).f5.length d5, .int .i64 i] (by rfl) rfl rfl (by simp only [List.map_toArray, List.map_cons, List.map_nil]; rfl) ?_
             with_reducible refine (clerestoryref1_without.calls P5 d5 (q00 o (q00 o e1).f4).f5 i l _ C53.out l5.out HLL.out).mono ?_
             rintro e w31 ⟨v31, rfl, hr31, hbx⟩
             refine ⟨_, rfl, ?_⟩
             obtain ⟨A31, c31, e31_⟩ := Kd.R_slice hr31
             subst e31_
             have HR31 := aS (show (Kd.int .i64).R 3 w31 w30.heap.size (fun _ => True) (.slice A31 l.length c31) l from hr31)
             have HI4 := aS (InEd.below HI3.out hbx)
             have HB4 := aS (q01 HB3.out hbx)
             have HS4 := aS (show gx < w30.heap.size from q0a HI3.out.2.1)
             have y53 := (hbx.cell (World.block_lt_of_cell? _ _ y5)).trans y5
             clear hz0 y5 ha1 hbx hr31
             have y5 := y53
             clear y53
             obtain ⟨hz0, -, -, -⟩ := bk2 HI4.out.1.1
             obtain ⟨-, ha1, -, -, -, -, -, -, -, -, -, -⟩ := bk12 (q02 EK0.out HB4.out)
             obtain ⟨_, _, _, _, _, _, _, _, _, _, _, _, _, _, fz_⟩ := q0u.elem HI4.out.1 (q00 o e1).f4 HT0.out HT1.out
             have y5z := fz_ 5
             clear fz_
             refine hK.out _ _ ⟨hz0, y5, ha1⟩ (fun hHeld => ?_)
             clear hK K
             refine q1n (a' := ?_) ?_ ?_
             rotate_left
             ·show Act.put _ (some 189) _ = _
              simp only [Act.put, s1, s2, s3, q0d, q0e]
              rfl
             refine q0n (i := 19) (N := some 190) (v := ?_) (a' := ?_) #[true, true, true, true, true, true, true, true, true, true, true, true, true, true, true, true, true, true, true, true, false, false] rfl rfl (by kernel_rfl) (fun _ _ _ h => h) (Or.inl ⟨by rfl, ?_⟩) ?_ ?_
             rotate_left
             ·intro w'
              go_simp
              with_reducible rfl
             rotate_left
             ·simp only [Act.put, s1, s2, s3, q0d, q0e]
              rfl
             refine q0n (i := 20) (N := some 191) (v := ?_) (a' := ?_) #[true, true, true, true, true, true, true, true, true, true, true, true, true, true, true, true, true, true, true, true, true, false] rfl rfl (by kernel_rfl) (fun _ _ _ h => h) (Or.inl ⟨by rfl, ?_⟩) ?_ ?_
             rotate_left
             ·intro w'
              go_simp
              with_reducible rfl
             rotate_left
             ·simp only [Act.put, s1, s2, s3, q0d, q0e]
              rfl
             refine last_ (i := 21) (N := none) #[true, true, true, true, true, true, true, true, true, true, true, true, true, true, true, true, true, true, true, true, true, true] rfl rfl (by kernel_rfl) (by decide) (fun K hK => ?_)
             refine skip_ (w1 := ?_) (by rfl) rfl ?_ ?_
             rotate_left
             ·go_simp
              rfl
             refine hK.out _ _ ?_
             clear hK K
             refine done_ (by kernel_rfl) ?_
             all_goals
              clear p0 p1 hz0 y5 ha1 y5z
              obtain ⟨W1, hW1⟩ : ∃ W, w31.setCell ⟨b, (q00 o e1).f4.toNat * 6 + 5, none⟩ (.slice A31 l.length c31) = W := ⟨_, rfl⟩
              rw [hW1]
              have HW1 := aS hW1
              have HNE := aS (show b ≠ gx from fun e_ => by have h1_ := HI4.out.1.ge.2.2; have h2_ := HI4.out.2.2.2.2.1; omega)
              have XK1 : Aside0 (W1.heap[gx]? = some (.cells #[.int .i64 (q00 o e1).f0, .string (q00 o e1).f1, .slice A2 (q00 o e1).f2.length c2, .string (q00 o e1).f3, .int .i64 (q00 o e1).f4, .slice A5 (q00 o e1).f5.length c5] 43 (0, 0))) := ⟨by rw [← hW1]; exact (Below.heap_setCell w31 _ _ gx (fun e_ => HNE.out e_.symm)).trans HI4.out.2.1⟩
              have ZK1 : Aside0 (W1.heap[g]? = some (.cells #[.slice (some ⟨b, 0, none⟩) o.length cap, .bool q2] 24 (0, 0))) := ⟨by rw [← hW1]; exact (Below.heap_setCell w31 _ _ g (fun e_ => HI4.out.1.ge.2.1 e_.symm)).trans HI4.out.1.1⟩
              have HB5 : Aside0 (Below w7.heap.size w7 W1) := ⟨by rw [← hW1]; exact q08 (j := (q00 o e1).f4.toNat * 6 + 5) (v := .slice A31 l.length c31) HB4.out HI4.out.1.ge.1⟩
              have R2 : Aside0 (W1.cell? ⟨b, e1.toNat * 6 + 2, none⟩ = some (.slice A2 (q00 o e1).f2.length c2)) := ⟨by rw [← hW1, World.cell?_setCell_other _ _ _ _ (by intro e_; injection e_ with _ e_; omega)]; exact HI4.out.2.2.1⟩
              have R5 : Aside0 (W1.cell? ⟨b, e1.toNat * 6 + 5, none⟩ = some (.slice A5 (q00 o e1).f5.length c5)) := ⟨by rw [← hW1, World.cell?_setCell_other _ _ _ _ (by intro e_; injection e_ with _ e_; have h1_ := HT0.out; have h2_ := HN0.out; have h3_ := HT2.out; omega)]; exact HI4.out.2.2.2.1⟩
              clear hW1
              obtain ⟨hz0, hz1, -, -⟩ := bk2 ZK1.out
              have hqq_ := bk6 XK1.out
              obtain ⟨hq0, hq1, hq2, hq3, hq4, hq5, hqf0, hqf1, hqf2, hqf3, hqf4, hqf5⟩ := hqq_
              obtain ⟨ha0, ha1, ha2, ha3, ha4, ha5, ha6, ha7, ha8, ha9, ha10, ha11⟩ := bk12 (q02 EK0.out HB5.out)
              go_upto_region 37 with (fail)
              have HO3 : Aside0 (q0u w7 (W1.setCell ⟨gx, 4, none⟩ (.int .i64 (-1))) w31.heap.size g b cap (o.set (q00 o e1).f4.toNat { (q00 o (q00 o e1).f4) with f5 := l }) q2) := ⟨by
               rw [← HW1.out, setCell_comm _ _ _ _ _ (show (⟨b, (q00 o e1).f4.toNat * 6 + 5, none⟩ : Addr).block ≠ (⟨gx, 4, none⟩ : Addr).block from HNE.out)]
               exact q0u.kids (q0u.far HI4.out.1 (p := ⟨gx, 4, none⟩) HI4.out.2.2.2.2.1 HI4.out.2.2.2.2.2 (.int .i64 (-1))) (Nat.le_trans HI4.out.2.2.2.2.1 (Nat.le_of_lt (q0a HI4.out.2.1))) (q00 o e1).f4 HT0.out HT1.out l (.slice A31 l.length c31) (Kd.R_mono (Kd.R_lower (Kd.R_far (Kd.R_bound HR31.out) (p := ⟨gx, 4, none⟩) (fun k hk e_ => by have h1_ := hk.2.1; have h2_ := HS4.out; have e_ : k = gx := e_; omega) (.int .i64 (-1))) (Below.size HB3.out)) (fun k hk => ⟨by have h1_ := hk.2.1; have h2_ := HS4.out; have h3_ := HI4.out.2.2.2.2.1; omega, hk.2.2.1, fun e_ => by have h1_ := hk.2.1; have h2_ := HS4.out; have h3_ := HI4.out.2.2.2.2.1; have h4_ := HI4.out.2.2.2.2.2; omega⟩))⟩
              have XK3 : Aside0 ((W1.setCell ⟨gx, 4, none⟩ (.int .i64 (-1))).heap[gx]? = some (.cells #[.int .i64 (q00 o e1).f0, .string (q00 o e1).f1, .slice A2 (q00 o e1).f2.length c2, .string (q00 o e1).f3, .int .i64 (-1), .slice A5 (q00 o e1).f5.length c5] 43 (0, 0))) := ⟨(q0h XK1.out 4 (.int .i64 (-1))).trans rfl⟩
              have HB6 := aS (q08 (j := 4) (v := .int .i64 (-1)) HB5.out HI4.out.gxge)
              have R23 : Aside0 ((W1.setCell ⟨gx, 4, none⟩ (.int .i64 (-1))).cell? ⟨b, e1.toNat * 6 + 2, none⟩ = some (.slice A2 (q00 o e1).f2.length c2)) := ⟨(World.cell?_setCell_other _ _ _ _ (by intro e_; injection e_ with e_ _; exact HNE.out e_.symm)).trans R2.out⟩
              have R53 : Aside0 ((W1.setCell ⟨gx, 4, none⟩ (.int .i64 (-1))).cell? ⟨b, e1.toNat * 6 + 5, none⟩ = some (.slice A5 (q00 o e1).f5.length c5)) := ⟨(World.cell?_setCell_other _ _ _ _ (by intro e_; injection e_ with e_ _; exact HNE.out e_.symm)).trans R5.out⟩
              have HLN : Aside0 (e1 < ((o.set (q00 o e1).f4.toNat { (q00 o (q00 o e1).f4) with f5 := l }).length : Int)) := ⟨by rw [List.length_set]; exact HN1.out⟩
              have HRD := aS (rd_set_ne o (q00 o e1).f4 { (q00 o (q00 o e1).f4) with f5 := l } e1 HT0.out HN0.out HT2.out)
              clear hz0 hz1 hq0 hq1 hq2 hq3 hq4 hq5 hqf0 hqf1 hqf2 hqf3 hqf4 hqf5 ha0 ha1 ha2 ha3 ha4 ha5 ha6 ha7 ha8 ha9 ha10 ha11
              generalize W1.setCell ⟨gx, 4, none⟩ (.int .i64 (-1)) = wt at HO3 XK3 HB6 R23 R53 ⊢
              have ZK3 : Aside0 (wt.heap[g]? = some (.cells #[.slice (some ⟨b, 0, none⟩) o.length cap, .bool q2] 24 (0, 0))) := ⟨by have h_ := HO3.out.1; rw [List.length_set] at h_; exact h_⟩
              obtain ⟨hz0, hz1, -, -⟩ := bk2 ZK3.out
              have hqq_ := bk6 XK3.out
              obtain ⟨hq0, hq1, hq2, hq3, hq4, hq5, hqf0, hqf1, hqf2, hqf3, hqf4, hqf5⟩ := hqq_
              obtain ⟨ha0, ha1, ha2, ha3, ha4, ha5, ha6, ha7, ha8, ha9, ha10, ha11⟩ := bk12 (q02 EK0.out HB6.out)
              have HTH := aS (q0u.there HO3.out e1 HN0.out HLN.out)
              have HW9 := aS (q0u.whole HO3.out (Nat.le_refl _) e1 HN0.out HLN.out { (q00 o e1) with f4 := -1 } (.slice A2 (q00 o e1).f2.length c2) (.slice A5 (q00 o e1).f5.length c5) (.inl ⟨R23.out, by rw [HRD.out]⟩) (.inl ⟨R53.out, by rw [HRD.out]⟩))
              have HB9_ := aS (q1r HW9.out.ge.1 [.int .i64 (q00 o e1).f0, .string (q00 o e1).f1, .slice A2 (q00 o e1).f2.length c2, .string (q00 o e1).f3, .int .i64 (-1), .slice A5 (q00 o e1).f5.length c5] (e1.toNat * 6) HB6.out)
              go_wp2_with (refine wpList_store_mid (by rfl) 43 (.tmp 198) (.tmp 197) (by rfl) b (e1.toNat * 6) #[.int .i64 (q00 o e1).f0, .string (q00 o e1).f1, .slice A2 (q00 o e1).f2.length c2, .string (q00 o e1).f3, .int .i64 (-1), .slice A5 (q00 o e1).f5.length c5] ?hx ?hy ?hT ?hI ?h1 ?_; go_must ((case hx => rfl); (case hy => rfl); (case hT => exact HTH.out); (case hI => kernel_rfl); (case h1 => first | rfl | (simp [Value.oneCell']; done) | (simp; done) | decide)))
              go_meet
              exact ⟨rfl, ⟨⟨_, _, _, HW9.out⟩⟩, HB9_⟩
           ·rw [if_neg d6] at hm
            have d6b : (e0 == 6) = false := beq_eq_false_iff_ne.mpr d6
            clear d6
            as_aux_lemma =>
             simp only [Option.some.injEq] at hm
             subst hm
             go_upto_region 37 with (fail)
             have HTH := aS (q0u.there HIE1.out.1 e1 HN0.out HN1.out)
             have HW9 := aS (q0u.whole HIE1.out.1 (Nat.le_refl T) e1 HN0.out HN1.out (q00 o e1) (.slice A2 (q00 o e1).f2.length c2) (.slice A5 (q00 o e1).f5.length c5) (.inl ⟨HIE1.out.2.2.1, rfl⟩) (.inl ⟨HIE1.out.2.2.2.1, rfl⟩))
             have HB9_ := aS (q1r HW9.out.ge.1 [.int .i64 (q00 o e1).f0, .string (q00 o e1).f1, .slice A2 (q00 o e1).f2.length c2, .string (q00 o e1).f3, .int .i64 (q00 o e1).f4, .slice A5 (q00 o e1).f5.length c5] (e1.toNat * 6) HB1.out)
             go_wp2_with (refine wpList_store_mid (by rfl) 43 (.tmp 198) (.tmp 197) (by rfl) b (e1.toNat * 6) #[.int .i64 (q00 o e1).f0, .string (q00 o e1).f1, .slice A2 (q00 o e1).f2.length c2, .string (q00 o e1).f3, .int .i64 (q00 o e1).f4, .slice A5 (q00 o e1).f5.length c5] ?hx ?hy ?hT ?hI ?h1 ?_; go_must ((case hx => rfl); (case hy => rfl); (case hT => exact HTH.out); (case hI => kernel_rfl); (case h1 => first | rfl | (simp [Value.oneCell']; done) | (simp; done) | decide)))
             go_meet
             exact ⟨rfl, ⟨⟨_, _, _, HW9.out⟩⟩, HB9_⟩
  case rest =>
   clear HN HI HB9 HE HO EK1 ha0 ha1 ha2 ha3 ha4 ha5 ha6 ha7 ha8 ha9 ha10 ha11
   obtain ⟨rfl, HI0, HB1⟩ := hcut
   obtain ⟨T1, b1, c1, hI1⟩ := HI0.out
   have HI1 := aS hI1
   clear hI1 HI0
   obtain ⟨hz0, hz1, -, -⟩ := bk2 HI1.out.1
   have RK1 := q02 RK0.out HB1.out
   obtain ⟨hr0, hr1, hrf0, hrf1⟩ := bk2 RK1
   clear RK1
   have GL := aS (q0a RK0.out)
   have h2 := H2.out
   clear H2
   by_cases zt : t ≠ 0
   ·have h3 := (if_pos zt).symm.trans h2
    clear h2
    simp only [Option.some.injEq, Prod.mk.injEq] at h3
    obtain ⟨rfl, rfl, rfl, rfl⟩ := h3
    have z1 : (t != 0) = true := bne_iff_ne.mpr zt
    clear zt
    go_wp2_with (go_at_call 17; refine (clerestoryref1_DocErr.calls k (some ⟨b1, 0, none⟩) c1 p1 q2 t _ (Kd.R_reads' (Kd.S_R HI1.out.2.2)).2.2 (Kd.R_reads' (Kd.S_R HI1.out.2.2)).2.1 HT.out).mono ?_; rintro e w20 ⟨rfl, hbl⟩; have HI2 := aS (q0u.below HI1.out hbl); have HB2 := aS (q01 HW.out (q01 HB1.out hbl)); have RK2 := aS (q02 RK0.out (q01 HB1.out hbl)); clear HI1 HB1 hbl hz0 hz1 hr0 hr1 hrf0 hrf1; obtain ⟨hz0, hz1, -, -⟩ := bk2 HI2.out.1; obtain ⟨hr0, hr1, hrf0, hrf1⟩ := bk2 RK2.out)
    refine bodyPost_ret (q0y rfl _ _ gr 24 #[.slice none 0 0, .bool false] (0, 0) _ rfl (q0h (q0h RK2.out 0 _) 1 _) Tryd.underlying24 rfl (by kernel_rfl)) rfl ?_
    exact ⟨_, rfl, Kd.S_nil _ _ _ _ _, q08 (q08 HB2.out GR.out) GR.out⟩
   ·have h3 := (if_neg zt).symm.trans h2
    clear h2
    obtain rfl : t = 0 := Classical.not_not.1 zt
    clear zt
    simp only [Option.some.injEq, Prod.mk.injEq] at h3
    obtain ⟨rfl, rfl, rfl, rfl⟩ := h3
    go_wp2_with (go_at_call 17; refine (clerestoryref1_DocErr.calls k (some ⟨b1, 0, none⟩) c1 p1 q2 0 _ (Kd.R_reads' (Kd.S_R HI1.out.2.2)).2.2 (Kd.R_reads' (Kd.S_R HI1.out.2.2)).2.1 HT.out).mono ?_; rintro e w20 ⟨rfl, hbl⟩; have HI2 := aS (q0u.below HI1.out hbl); have HB2 := aS (q01 HW.out (q01 HB1.out hbl)); have RK2 := aS (q02 RK0.out (q01 HB1.out hbl)); clear HI1 HB1 hbl hz0 hz1 hr0 hr1 hrf0 hrf1; obtain ⟨hz0, hz1, -, -⟩ := bk2 HI2.out.1; obtain ⟨hr0, hr1, hrf0, hrf1⟩ := bk2 RK2.out)
    refine bodyPost_ret (q0y rfl _ _ gr 24 #[.slice (some ⟨b1, 0, none⟩) p1.length c1, .bool q2] (0, 0) _ rfl (q0h (q0h RK2.out 0 _) 1 _) Tryd.underlying24 rfl (by kernel_rfl)) rfl ?_
    have hfar : ∀ k, (w7.heap.size ≤ k) → k ≠ gr := fun k hk e_ => by have := GL.out; omega
    exact ⟨_, rfl, Kd.S_mono (Kd.S_far (Kd.S_far (Kd.S_lower (Kd.S_mono (Kd.S_bound HI2.out.2.2) (fun k hk => hk.2.1)) (Below.size HW.out)) hfar _) hfar _) (fun _ _ => trivial), q08 (q08 HB2.out GR.out) GR.out⟩
theorem edl0_mono (nm u : ByteArray) (d : Int) : ∀ k i xs o st, LeO (edl0 nm u d k i xs o st) (edl0 nm u d (k + 1) i xs o st)
 | 0, _, _, _, _ => LeO.none _
 | k + 1, i, xs, o, st => by
  unfold edl0
  repeat' first | with_reducible first | apply edl0_mono nm u d k | exact LeO.refl _ | exact LeO.none _ | refine LeO.ite ?_ ?_
theorem edMid_mono (o : List S43) (d n t2 bf : Int) (nm u : ByteArray) (k : Nat) : LeO (edMid k o d n t2 bf nm u) (edMid (k + 1) o d n t2 bf nm u) := by
 unfold edMid
 repeat' first | with_reducible first | apply edl0_mono | apply clerestoryref1_placeIn.mono | exact LeO.refl _ | exact LeO.none _ | refine LeO.ite ?_ ?_ | refine LeO.bind ?_ (fun _ => ?_)
theorem edNext_mono (o : List S43) (e0 e1 e2 e3 : Int) (e4 e5 : ByteArray) (e6 : Int) (e7 : ByteArray) (l8 : List S122) (e9 : ByteArray) (k : Nat) : LeO (q1t k o e0 e1 e2 e3 e4 e5 e6 e7 l8 e9) (q1t (k + 1) o e0 e1 e2 e3 e4 e5 e6 e7 l8 e9) := by
 unfold q1t
 repeat' first | with_reducible first | apply edMid_mono | exact LeO.refl _ | exact LeO.none _ | refine LeO.ite ?_ ?_ | refine LeO.bind ?_ (fun _ => ?_)
theorem clerestoryref1_Edited.mono (l0 : List S43) (q : Bool) (e0 e1 e2 e3 : Int) (e4 e5 : ByteArray) (e6 : Int) (e7 : ByteArray) (l8 : List S122) (e9 : ByteArray) (e10 : Int) (l11 : List Int) (k : Nat) : LeO (clerestoryref1_Edited.f k l0 q e0 e1 e2 e3 e4 e5 e6 e7 l8 e9 e10 l11) (clerestoryref1_Edited.f (k + 1) l0 q e0 e1 e2 e3 e4 e5 e6 e7 l8 e9 e10 l11) := by
 unfold clerestoryref1_Edited.f
 repeat' first | with_reducible first | apply clerestoryref1_EditErr.mono | apply clerestoryref1_copyDoc.mono | apply edNext_mono | apply clerestoryref1_DocErr.mono | exact LeO.refl _ | exact LeO.none _ | refine LeO.ite ?_ ?_ | refine LeO.bind ?_ (fun _ => ?_)
end Go.Proofs.YthjnallbbhnndaaDoor.XDe
namespace Go.Proofs.YthjnallbbhnndaaDoor.Dm
open Go Go.RowKit Go.Proofs.YthjnallbbhnndaaDoor.XDe Go.Proofs.YthjnallbbhnndaaDoorW.PrintWords Go.Proofs.YthjnallbbhnndaaDoorW.PrintLast
theorem rd_setN (ns : List S43) (a : Int) (x : S43) (i : Int) (h0 : 0 ≤ a) (h1 : a < ns.length) (hi : 0 ≤ i) : q00 (ns.set a.toNat x) i = if i = a then x else q00 ns i := by
  by_cases e : i = a
  · subst e
    rw [if_pos rfl]
    simp [q00, List.getD, show i.toNat < ns.length by omega]
  · rw [if_neg e]
    simp [q00, List.getD, show ¬ a.toNat = i.toNat by omega]
theorem rd_appN (ns : List S43) (x : S43) (i : Int) (hi : 0 ≤ i) (h1 : i < ns.length + 1) : q00 (ns ++ [x]) i = if i = ns.length then x else q00 ns i := by
  by_cases e : i = ns.length
  · subst e
    rw [if_pos rfl]
    simp [q00, List.getD]
  · rw [if_neg e]
    simp [q00, List.getD, List.getElem?_append, show i.toNat < ns.length by omega]
def attrsOk (l : List S122) : Prop := (∀ x ∈ l, nameB x.f0 false = true ∧ x.f1.size ≤ 400) ∧ (l.map fun x => x.f0.toList).Nodup
theorem errA_all (l : List S122) : ∀ d i : Nat, errA l d i = 0 ↔ ∀ j : Nat, i ≤ j → j < i + d → nameB (q03 l (j : Int)).f0 false = true ∧ (q03 l (j : Int)).f1.size ≤ 400 ∧ hasA (l.take j) (q03 l (j : Int)).f0 = false
  | 0, i => ⟨fun _ j h1 h2 => by omega, fun _ => rfl⟩
  | d + 1, i => by
    rw [errA_succ]
    by_cases c1 : nameB (q03 l (i : Int)).f0 false = true
    · rw [if_pos c1]
      by_cases c2 : 400 < (q03 l (i : Int)).f1.size
      · rw [if_pos c2]
        refine ⟨fun h => (by cases h), fun h => ?_⟩
        have := (h i (Nat.le_refl _) (by omega)).2.1
        omega
      · rw [if_neg c2]
        by_cases c3 : hasA (l.take i) (q03 l (i : Int)).f0 = true
        · rw [if_pos c3]
          refine ⟨fun h => (by cases h), fun h => ?_⟩
          have := (h i (Nat.le_refl _) (by omega)).2.2
          rw [c3] at this
          cases this
        · rw [if_neg c3, errA_all l d (i + 1)]
          refine ⟨fun h j h1 h2 => ?_, fun h j h1 h2 => h j (by omega) (by omega)⟩
          by_cases e : j = i
          · subst e; exact ⟨c1, by omega, by simpa using c3⟩
          · exact h j (by omega) (by omega)
    · rw [if_neg c1]
      refine ⟨fun h => (by cases h), fun h => absurd (h i (Nat.le_refl _) (by omega)).1 c1⟩
theorem hasA_false (l : List S122) (nm : ByteArray) : hasA l nm = false ↔ ∀ x ∈ l, x.f0.toList ≠ nm.toList := by
  unfold hasA
  rw [List.any_eq_false]
  exact ⟨fun h x hx e => h x hx (by simpa using e), fun h x hx e => h x hx (by simpa using e)⟩
theorem errA_iff (l : List S122) : errA l l.length 0 = 0 ↔ attrsOk l := by
  rw [errA_all]
  unfold attrsOk
  constructor
  · intro h
    refine ⟨fun x hx => ?_, ?_⟩
    · obtain ⟨j, hj, rfl⟩ := List.mem_iff_getElem.1 hx
      have := h j (Nat.zero_le _) (by omega)
      rw [rdA l j hj] at this
      exact ⟨this.1, this.2.1⟩
    · rw [List.Nodup, List.pairwise_iff_getElem]
      intro i j hi hj hij
      rw [List.length_map] at hi hj
      rw [List.getElem_map, List.getElem_map]
      have := (h j (Nat.zero_le _) (by omega)).2.2
      rw [rdA l j hj] at this
      exact (hasA_false _ _).1 this _ (List.mem_iff_getElem.2 ⟨i, by rw [List.length_take]; omega, by rw [List.getElem_take]⟩)
  · rintro ⟨h1, h2⟩ j _ hj
    rw [Nat.zero_add] at hj
    rw [rdA l j hj]
    refine ⟨(h1 _ (List.getElem_mem _)).1, (h1 _ (List.getElem_mem _)).2, (hasA_false _ _).2 fun x hx => ?_⟩
    obtain ⟨i, hi, rfl⟩ := List.mem_iff_getElem.1 hx
    rw [List.length_take] at hi
    rw [List.getElem_take]
    rw [List.Nodup, List.pairwise_iff_getElem] at h2
    have := h2 i j (by rw [List.length_map]; omega) (by rw [List.length_map]; omega) (by omega)
    rw [List.getElem_map, List.getElem_map] at this
    exact this
theorem q1v (x : S43) : q1w x = 0 ↔ (1 ≤ x.f0 ∧ x.f0 ≤ 5 ∧ bareB x = true ∧ (x.f0 = 2 → nameB x.f1 true = true) ∧ x.f2.length ≤ 12 ∧ attrsOk x.f2 ∧ x.f3.size ≤ 400 ∧ x.f1.size ≤ 400) := by
  rw [← errA_iff]
  unfold q1w
  by_cases c1 : x.f0 < 1 ∨ 5 < x.f0 ∨ bareB x = false
  · rw [if_pos c1]
    refine ⟨fun h => (by cases h), fun h => ?_⟩
    rcases c1 with c | c | c
    · omega
    · omega
    · rw [h.2.2.1] at c; cases c
  · rw [if_neg c1]
    by_cases c2 : x.f0 = 2 ∧ nameB x.f1 true = false
    · rw [if_pos c2]
      refine ⟨fun h => (by cases h), fun h => ?_⟩
      have := h.2.2.2.1 c2.1
      rw [c2.2] at this
      cases this
    · rw [if_neg c2]
      by_cases c3 : 12 < x.f2.length
      · rw [if_pos c3]
        refine ⟨fun h => (by cases h), fun h => by omega⟩
      · rw [if_neg c3]
        by_cases c4 : errA x.f2 x.f2.length 0 ≠ 0
        · rw [if_pos c4]
          exact ⟨fun h => absurd h c4, fun h => absurd h.2.2.2.2.2.1 c4⟩
        · rw [if_neg c4]
          have c4 := Classical.not_not.1 c4
          by_cases c5 : 400 < x.f3.size ∨ 400 < x.f1.size
          · rw [if_pos c5]
            refine ⟨fun h => (by cases h), fun h => by omega⟩
          · rw [if_neg c5]
            refine ⟨fun _ => ⟨by omega, by omega, ?_, ?_, by omega, c4, by omega, by omega⟩, fun _ => rfl⟩
            · cases hb : bareB x with
              | true => rfl
              | false => exact absurd (.inr (.inr hb)) c1
            · intro h2
              cases hb : nameB x.f1 true with
              | true => rfl
              | false => exact absurd ⟨h2, hb⟩ c2
theorem deepN_same {ns ms : List S43} (h : ∀ i : Int, 0 ≤ i → par ms i = par ns i) : ∀ (d : Nat) (i : Int), 0 ≤ i → q1o ms d i = q1o ns d i
  | 0, _, _ => rfl
  | d + 1, i, hi => by
    show (if par ms i ≥ 0 then 1 + q1o ms d (par ms i) else 0) = if par ns i ≥ 0 then 1 + q1o ns d (par ns i) else 0
    rw [h i hi]
    by_cases c : par ns i ≥ 0
    · rw [if_pos c, if_pos c, deepN_same h d _ c]
    · rw [if_neg c, if_neg c]
theorem DocOk.like {ns ms : List S43} (h : DocOk ns) (hl : ms.length = ns.length) (hp : ∀ i : Int, 0 ≤ i → par ms i = par ns i) (hc : ∀ i : Int, 0 ≤ i → kidL ms i = kidL ns i) (hk : ∀ i : Int, 0 ≤ i → kindN ms i = kindN ns i) (hn : ∀ i : Int, 0 ≤ i → i < ns.length → q1w (q00 ms i) = 0) : DocOk ms := by
  refine ⟨by rw [hl]; exact h.many, by rw [hl]; exact h.some_, fun i h0 h1 => hn i h0 (by rw [← hl]; exact h1), fun i h0 h1 => ?_, ?_, fun i c h0 h1 hi => ?_, fun i h0 h1 => ?_, fun c hi => ?_, fun i h0 h1 => ?_, fun i h0 h1 => ?_⟩
  · rw [hk i h0]; exact h.kind i h0 (by rw [← hl]; exact h1)
  · rw [hp 0 (by omega)]; exact h.root
  · rw [hc i h0] at hi
    obtain ⟨a, b, e⟩ := h.kid i c h0 (by rw [← hl]; exact h1) hi
    exact ⟨a, by rw [hl]; exact b, by rw [hp c a]; exact e⟩
  · rw [hc i h0]; exact h.once i h0 (by rw [← hl]; exact h1)
  · rw [hc 0 (by omega)] at hi
    rw [hk c (h.kid 0 c (by omega) (by have := h.some_; omega) hi).1]
    exact h.text c hi
  · rw [hp i h0]
    rcases h.up i h0 (by rw [← hl]; exact h1) with e | ⟨a, b, e⟩
    · exact .inl e
    · exact .inr ⟨a, by rw [hl]; exact b, by rw [hc _ a]; exact e⟩
  · have := h.deep i h0 (by rw [← hl]; exact h1)
    unfold q0m at this ⊢
    rw [hl, deepN_same hp _ i h0]
    exact this
theorem DocOk.write {ns : List S43} (h : DocOk ns) {n : Int} (h0 : 0 ≤ n) (h1 : n < ns.length) {x : S43} (hk : x.f0 = kindN ns n) (hp : x.f4 = par ns n) (hc : x.f5 = kidL ns n) : DocOk (ns.set n.toNat x) ↔ q1w x = 0 := by
  have r := fun i hi => rd_setN ns n x i h0 h1 hi
  constructor
  · intro hd
    have := hd.node n h0 (by rw [List.length_set]; exact h1)
    rw [r n h0, if_pos rfl] at this
    exact this
  · intro hx
    refine h.like (by rw [List.length_set]) (fun i hi => ?_) (fun i hi => ?_) (fun i hi => ?_) (fun i hi hi1 => ?_)
    · unfold par; rw [r i hi]; by_cases e : i = n
      · rw [if_pos e, hp, e]; rfl
      · rw [if_neg e]
    · unfold kidL; rw [r i hi]; by_cases e : i = n
      · rw [if_pos e, hc, e]; rfl
      · rw [if_neg e]
    · unfold kindN; rw [r i hi]; by_cases e : i = n
      · rw [if_pos e, hk, e]; rfl
      · rw [if_neg e]
    · rw [r i hi]; by_cases e : i = n
      · rw [if_pos e]; exact hx
      · rw [if_neg e]; exact h.node i hi hi1
theorem DocOk.more {ns : List S43} (h : DocOk ns) {x : S43} (hx : q1w x = 0) (hk : x.f0 ≠ 1) (hp : x.f4 = -1) (hc : x.f5 = []) : DocOk (ns ++ [x]) ↔ ns.length < 200 := by
  have hl : (ns ++ [x]).length = ns.length + 1 := by rw [List.length_append]; rfl
  have hs := h.some_
  have r := fun i hi h1 => rd_appN ns x i hi h1
  have pr : ∀ i : Int, 0 ≤ i → i < ns.length → par (ns ++ [x]) i = par ns i ∧ kidL (ns ++ [x]) i = kidL ns i ∧ kindN (ns ++ [x]) i = kindN ns i := fun i h0 h1 => by
    unfold par kidL kindN; rw [r i h0 (by omega), if_neg (by omega)]; exact ⟨rfl, rfl, rfl⟩
  have pl : par (ns ++ [x]) (ns.length : Int) = -1 ∧ kidL (ns ++ [x]) (ns.length : Int) = [] ∧ kindN (ns ++ [x]) (ns.length : Int) = x.f0 := by
    unfold par kidL kindN; rw [r ns.length (by omega) (by omega), if_pos rfl]; exact ⟨hp, hc, rfl⟩
  constructor
  · intro hd
    have := hd.many
    omega
  · intro hm
    have hdp : ∀ i : Int, 0 ≤ i → i < (ns ++ [x]).length → q0m (ns ++ [x]) i = (if i = ns.length then 0 else q0m ns i) ∧ q0m (ns ++ [x]) i < (ns ++ [x]).length := fun i h0 h1 => by
      refine deep_of_rank (ns := ns ++ [x]) (fun i => if i = ns.length then 0 else q0m ns i) (fun i h0 h1 => ?_) h0 h1
      rw [hl] at h1
      by_cases e : i = ns.length
      · left
        subst e
        rw [pl.1, if_pos rfl]
        exact ⟨by omega, rfl⟩
      · rw [if_neg e, (pr i h0 (by omega)).1]
        rcases h.tree.rank i h0 (by omega) with ⟨a, b⟩ | ⟨a, b, c⟩
        · exact .inl ⟨a, b⟩
        · exact .inr ⟨a, by rw [hl]; omega, by rw [if_neg (by omega)]; exact c⟩
    refine ⟨by omega, by omega, fun i h0 h1 => ?_, fun i h0 h1 => ?_, ?_, fun i c h0 h1 hi => ?_, fun i h0 h1 => ?_, fun c hi => ?_, fun i h0 h1 => ?_, fun i h0 h1 => ?_⟩
    · rw [hl] at h1
      rw [r i h0 (by omega)]
      by_cases e : i = ns.length
      · rw [if_pos e]; exact hx
      · rw [if_neg e]; exact h.node i h0 (by omega)
    · rw [hl] at h1
      by_cases e : i = ns.length
      · subst e
        rw [pl.2.2]
        exact ⟨fun e => absurd e hk, fun e => by omega⟩
      · rw [(pr i h0 (by omega)).2.2]
        exact h.kind i h0 (by omega)
    · rw [(pr 0 (by omega) (by omega)).1]; exact h.root
    · rw [hl] at h1 ⊢
      by_cases e : i = ns.length
      · subst e
        rw [pl.2.1] at hi
        cases hi
      · rw [(pr i h0 (by omega)).2.1] at hi
        obtain ⟨a, b, e⟩ := h.kid i c h0 (by omega) hi
        exact ⟨a, by omega, by rw [(pr c a b).1]; exact e⟩
    · rw [hl] at h1
      by_cases e : i = ns.length
      · subst e; rw [pl.2.1]; exact List.nodup_nil
      · rw [(pr i h0 (by omega)).2.1]; exact h.once i h0 (by omega)
    · rw [(pr 0 (by omega) (by omega)).2.1] at hi
      obtain ⟨a, b, _⟩ := h.kid 0 c (by omega) (by omega) hi
      rw [(pr c a b).2.2]
      exact h.text c hi
    · rw [hl] at h1 ⊢
      by_cases e : i = ns.length
      · subst e; exact .inl pl.1
      · rw [(pr i h0 (by omega)).1]
        rcases h.up i h0 (by omega) with e | ⟨a, b, e⟩
        · exact .inl e
        · exact .inr ⟨a, by omega, by rw [(pr _ a b).2.1]; exact e⟩
    · obtain ⟨e1, e2⟩ := hdp i h0 h1
      refine ⟨?_, by omega⟩
      rw [e1]
      by_cases e : i = ns.length
      · rw [if_pos e]; omega
      · rw [if_neg e]; exact (h.deep i h0 (by rw [hl] at h1; omega)).1
end Go.Proofs.YthjnallbbhnndaaDoor.Dm
namespace Go.Proofs.YthjnallbbhnndaaDoor.Dm
open Go Go.RowKit Go.Proofs.YthjnallbbhnndaaDoor.XDe Go.Proofs.YthjnallbbhnndaaDoorW.PrintWords Go.Proofs.YthjnallbbhnndaaDoorW.PrintLast
def setA (nm u : ByteArray) (l : List S122) : List S122 := l.map fun a => if a.f0.toList = nm.toList then ⟨a.f0, u⟩ else a
def dropN (nm : ByteArray) (l : List S122) : List S122 := l.filter fun a => !(a.f0.toList == nm.toList)
theorem edl0_eq (nm u : ByteArray) (d : Int) (xs : List S122) (hx : xs.length ≤ 1000) (m : Nat) : ∀ (i k : Nat) (o : List S122) (st : Bool), i + m = xs.length → m < k → o.length + m ≤ 4000000 →
    edl0 nm u d k (i : Int) xs o st = some (o ++ (if d = 1 then setA nm u (xs.drop i) else if d = 2 then dropN nm (xs.drop i) else xs.drop i), st || (decide (d = 1) && hasA (xs.drop i) nm)) := by
  induction m with
  | zero =>
    intro i k o st hi hk _
    obtain ⟨k, rfl⟩ : ∃ z, k = z + 1 := ⟨k - 1, by omega⟩
    rw [edl0, if_neg (by omega), List.drop_eq_nil_of_le (by omega)]
    simp [setA, dropN, hasA]
  | succ m ih =>
    intro i k o st hi hk ho
    obtain ⟨k, rfl⟩ : ∃ z, k = z + 1 := ⟨k - 1, by omega⟩
    have e : wrap64 ((i : Int) + 1) = ((i + 1 : Nat) : Int) := by unfold wrap64; omega
    rw [edl0, if_pos (by omega), if_pos (by omega), e, dropA xs i (by omega)]
    by_cases c : (q03 xs (i : Int)).f0.toList = nm.toList
    · rw [if_pos c]
      by_cases d1 : d = 1
      · subst d1
        rw [if_pos rfl, if_pos (by omega), ih (i + 1) k _ _ (by omega) (by omega) (by rw [List.length_append]; simp only [List.length_cons, List.length_nil]; omega)]
        simp [setA, hasA, c]
      · rw [if_neg d1]
        by_cases d2 : d = 2
        · subst d2
          rw [if_pos rfl, ih (i + 1) k _ _ (by omega) (by omega) (by omega)]
          simp [dropN, c]
        · rw [if_neg d2, if_pos (by omega), ih (i + 1) k _ _ (by omega) (by omega) (by rw [List.length_append]; simp only [List.length_cons, List.length_nil]; omega)]
          simp [d1, d2]
    · rw [if_neg c, if_pos (by omega), ih (i + 1) k _ _ (by omega) (by omega) (by rw [List.length_append]; simp only [List.length_cons, List.length_nil]; omega)]
      have cb : ((q03 xs (i : Int)).f0.toList == nm.toList) = false := beq_eq_false_iff_ne.2 c
      by_cases d1 : d = 1 <;> by_cases d2 : d = 2 <;> simp [setA, dropN, hasA, c, cb, d1, d2]
theorem edl0_all (nm u : ByteArray) (d : Int) (xs : List S122) (hx : xs.length ≤ 1000) (k : Nat) (hk : xs.length < k) :
    edl0 nm u d k 0 xs [] false = some (if d = 1 then setA nm u xs else if d = 2 then dropN nm xs else xs, decide (d = 1) && hasA xs nm) := by
  have := edl0_eq nm u d xs hx xs.length 0 k [] false (by omega) hk (by simp; omega)
  simpa using this
theorem findA (l : List S122) (nm : ByteArray) (hn : (l.map fun x => x.f0.toList).Nodup) (hh : hasA l nm = true) : ∃ j : Nat, ∃ hj : j < l.length, l[j].f0.toList = nm.toList ∧ Cl.idxOf (fun x => x.f0.toList == nm.toList) l = (j : Int) ∧ ∀ i : Nat, ∀ hi : i < l.length, i ≠ j → l[i].f0.toList ≠ nm.toList := by
  unfold hasA at hh
  rw [List.any_eq_true] at hh
  obtain ⟨x, hx, e⟩ := hh
  obtain ⟨j, hj, rfl⟩ := List.mem_iff_getElem.1 hx
  have e : l[j].f0.toList = nm.toList := by simpa using e
  have ne : ∀ i : Nat, ∀ hi : i < l.length, i ≠ j → l[i].f0.toList ≠ nm.toList := fun i hi hne h2 => by
    rw [List.Nodup, List.pairwise_iff_getElem] at hn
    rcases Nat.lt_or_gt_of_ne hne with h | h
    · have := hn i j (by rw [List.length_map]; omega) (by rw [List.length_map]; omega) h
      rw [List.getElem_map, List.getElem_map] at this
      exact this (h2.trans e.symm)
    · have := hn j i (by rw [List.length_map]; omega) (by rw [List.length_map]; omega) h
      rw [List.getElem_map, List.getElem_map] at this
      exact this (e.trans h2.symm)
  refine ⟨j, hj, e, Cl.idxOf_hit _ z122 l j hj (by rw [Cl.getD_lt l j z122 hj]; simpa using e) (fun i hi => ?_), ne⟩
  rw [Cl.getD_lt l i z122 (by omega)]
  have := ne i (by omega) (by omega)
  simpa using this
theorem missA (l : List S122) (nm : ByteArray) (hh : hasA l nm = false) : Cl.idxOf (fun x => x.f0.toList == nm.toList) l = -1 := by
  refine Cl.idxOf_miss _ z122 l fun j hj => ?_
  rw [Cl.getD_lt l j z122 hj]
  have := (hasA_false l nm).1 hh _ (List.getElem_mem hj)
  simpa using this
theorem setA_at (nm u : ByteArray) (l : List S122) (j : Nat) (hj : j < l.length) (e : l[j].f0.toList = nm.toList) (ne : ∀ i : Nat, ∀ hi : i < l.length, i ≠ j → l[i].f0.toList ≠ nm.toList) : setA nm u l = l.set j { l.getD j z122 with f1 := u } := by
  unfold setA
  apply List.ext_getElem
  · simp
  · intro i h1 h2
    rw [List.length_map] at h1
    rw [List.getElem_map, List.getElem_set]
    by_cases c : j = i
    · subst c
      rw [if_pos rfl, if_pos e, Cl.getD_lt l j z122 hj]
    · rw [if_neg c, if_neg (ne i h1 (fun h => c h.symm))]
theorem setA_none (nm u : ByteArray) (l : List S122) (hh : hasA l nm = false) : setA nm u l = l := by
  unfold setA
  have := (hasA_false l nm).1 hh
  rw [List.map_congr_left (g := id) (fun a ha => by rw [if_neg (this a ha)]; rfl), List.map_id]
theorem dropN_at (nm : ByteArray) (l : List S122) (j : Nat) (hj : j < l.length) (e : l[j].f0.toList = nm.toList) (ne : ∀ i : Nat, ∀ hi : i < l.length, i ≠ j → l[i].f0.toList ≠ nm.toList) : dropN nm l = l.eraseIdx j := by
  unfold dropN
  rw [List.eraseIdx_eq_take_drop_succ]
  conv => lhs; rw [← List.take_append_drop j l, List.drop_eq_getElem_cons hj]
  rw [List.filter_append, List.filter_cons_of_neg (by simp [e]), List.filter_eq_self.2, List.filter_eq_self.2]
  · intro a ha
    obtain ⟨i, hi, rfl⟩ := List.mem_iff_getElem.1 ha
    rw [List.length_drop] at hi
    rw [List.getElem_drop]
    have := ne (j + 1 + i) (by omega) (by omega)
    simpa using this
  · intro a ha
    obtain ⟨i, hi, rfl⟩ := List.mem_iff_getElem.1 ha
    rw [List.length_take] at hi
    rw [List.getElem_take]
    have := ne i (by omega) (by omega)
    simpa using this
theorem attrs_set {l : List S122} (h : attrsOk l) (nm u : ByteArray) (hh : hasA l nm = true) : attrsOk (setA nm u l) ↔ u.size ≤ 400 := by
  have hm : (setA nm u l).map (fun x => x.f0.toList) = l.map fun x => x.f0.toList := by
    unfold setA
    rw [List.map_map]
    refine List.map_congr_left fun a _ => ?_
    show (if a.f0.toList = nm.toList then (⟨a.f0, u⟩ : S122) else a).f0.toList = a.f0.toList
    split <;> rfl
  constructor
  · intro h2
    unfold hasA at hh
    rw [List.any_eq_true] at hh
    obtain ⟨x, hx, e⟩ := hh
    have := (h2.1 (if x.f0.toList = nm.toList then ⟨x.f0, u⟩ else x) (List.mem_map.2 ⟨x, hx, rfl⟩)).2
    rw [if_pos (by simpa using e)] at this
    exact this
  · intro hu
    refine ⟨fun x hx => ?_, by rw [hm]; exact h.2⟩
    obtain ⟨a, ha, rfl⟩ := List.mem_map.1 hx
    have := h.1 a ha
    by_cases c : a.f0.toList = nm.toList
    · rw [if_pos c]; exact ⟨this.1, hu⟩
    · rw [if_neg c]; exact this
theorem attrs_more {l : List S122} (h : attrsOk l) (nm u : ByteArray) (hh : hasA l nm = false) : attrsOk (l ++ [⟨nm, u⟩]) ↔ nameB nm false = true ∧ u.size ≤ 400 := by
  constructor
  · intro h2
    exact h2.1 ⟨nm, u⟩ (by simp)
  · intro hu
    refine ⟨fun x hx => ?_, ?_⟩
    · rcases List.mem_append.1 hx with hx | hx
      · exact h.1 x hx
      · rw [List.mem_singleton] at hx; subst hx; exact hu
    · rw [List.map_append, List.nodup_append]
      refine ⟨h.2, by simp, fun a ha b hb => ?_⟩
      obtain ⟨x, hx, rfl⟩ := List.mem_map.1 ha
      have hb : b = nm.toList := by simpa using hb
      rw [hb]
      exact (hasA_false l nm).1 hh x hx
theorem attrs_less {l : List S122} (h : attrsOk l) (nm : ByteArray) : attrsOk (dropN nm l) := by
  unfold dropN
  exact ⟨fun x hx => h.1 x (List.mem_filter.1 hx).1, List.Nodup.sublist (List.Sublist.map _ List.filter_sublist) h.2⟩
theorem node_attrs {x : S43} (hx : q1w x = 0) (h2 : x.f0 = 2) (l : List S122) : q1w { x with f2 := l } = 0 ↔ l.length ≤ 12 ∧ attrsOk l := by
  rw [q1v] at hx ⊢
  have hb : bareB { x with f2 := l } = bareB x := by unfold bareB; simp [h2]
  rw [hb]
  obtain ⟨a1, a2, a3, a4, a5, a6, a7, a8⟩ := hx
  exact ⟨fun h => ⟨h.2.2.2.2.1, h.2.2.2.2.2.1⟩, fun h => ⟨a1, a2, a3, a4, h.1, h.2, a7, a8⟩⟩
theorem node_text {x : S43} (hx : q1w x = 0) (h2 : x.f0 = 3 ∨ x.f0 = 4) (u : ByteArray) : q1w { x with f3 := u } = 0 ↔ u.size ≤ 400 := by
  rw [q1v] at hx ⊢
  have hb : bareB { x with f3 := u } = bareB x := by unfold bareB; rcases h2 with h2 | h2 <;> simp [h2]
  rw [hb]
  obtain ⟨a1, a2, a3, a4, a5, a6, a7, a8⟩ := hx
  exact ⟨fun h => h.2.2.2.2.2.2.1, fun h => ⟨a1, a2, a3, a4, a5, a6, h, a8⟩⟩
theorem node_kids {x : S43} (hx : q1w x = 0) (h2 : x.f0 = 1 ∨ x.f0 = 2) (l : List Int) : q1w { x with f5 := l } = 0 := by
  rw [q1v] at hx ⊢
  have hb : bareB { x with f5 := l } = bareB x := by unfold bareB; rcases h2 with h2 | h2 <;> simp [h2]
  rw [hb]
  exact hx
theorem node_par {x : S43} (hx : q1w x = 0) (p : Int) : q1w { x with f4 := p } = 0 := by
  rw [q1v] at hx ⊢
  exact hx
theorem node_kind {x : S43} (hx : q1w x = 0) (hk : x.f5 ≠ []) : x.f0 = 1 ∨ x.f0 = 2 := by
  rw [q1v] at hx
  obtain ⟨a1, a2, a3, -⟩ := hx
  unfold bareB at a3
  rw [Bool.and_eq_true, Bool.and_eq_true, Bool.and_eq_true] at a3
  have := a3.2.2.2
  have hl : ¬ x.f5.length = 0 := fun e => hk (List.length_eq_zero_iff.1 e)
  simp only [Bool.or_eq_true, decide_eq_true_eq] at this
  omega
end Go.Proofs.YthjnallbbhnndaaDoor.Dm
namespace Go.Proofs.YthjnallbbhnndaaDoor.Dm
open Go Go.RowKit Go.Proofs.YthjnallbbhnndaaDoor.XDe Go.Proofs.YthjnallbbhnndaaDoorW.PrintWords Go.Proofs.YthjnallbbhnndaaDoorW.PrintLast
set_option maxRecDepth 10000
def idx : List Int → Int → Nat
  | [], _ => 0
  | y :: t, x => if y = x then 0 else idx t x + 1
def idxI (l : List Int) (x : Int) : Int := if hasK l x = true then (idx l x : Int) else -1
theorem hasK_cons (y : Int) (t : List Int) (x : Int) : hasK (y :: t) x = (decide (y = x) || hasK t x) := rfl
theorem index_l0 (o : List Int) (x : Int) (ho : o.length ≤ 4611686018427387900) (d : Nat) : ∀ (i k : Nat), i + d = o.length → d < k →
    slices_Index_int_int.l0 k o x (o.length : Int) (i : Int) = some (if hasK (o.drop i) x = true then ((i + idx (o.drop i) x : Nat) : Int) else -1) := by
  induction d with
  | zero =>
    intro i k h hk
    obtain ⟨k, rfl⟩ : ∃ z, k = z + 1 := ⟨k - 1, by omega⟩
    rw [slices_Index_int_int.l0, if_neg (by omega), List.drop_eq_nil_of_le (by omega)]
    rfl
  | succ d ih =>
    intro i k h hk
    obtain ⟨k, rfl⟩ : ∃ z, k = z + 1 := ⟨k - 1, by omega⟩
    rw [slices_Index_int_int.l0, if_pos (by omega), if_pos (by omega), if_pos (by omega), w1 i (by omega), ih (i + 1) k (by omega) (by omega), dropK o i (by omega), hasK_cons, idx]
    by_cases c : x = rd o (i : Int)
    · rw [if_pos c, decide_eq_true c.symm, Bool.true_or, if_pos rfl, if_pos c.symm]
      rfl
    · rw [if_neg c, decide_eq_false (p := rd o (i : Int) = x) (fun e => c e.symm), Bool.false_or, if_neg (c := rd o (i : Int) = x) (fun e => c e.symm)]
      split
      · congr 1
        omega
      · rfl
theorem index_eq (o : List Int) (x : Int) (ho : o.length ≤ 4611686018427387900) (k : Nat) (hk : o.length < k) : slices_Index_int_int.f k o x = some (idxI o x) := by
  unfold slices_Index_int_int.f
  have := index_l0 o x ho o.length 0 k (by omega) hk
  rw [List.drop_zero, show ((0 : Nat) : Int) = 0 from rfl, Nat.zero_add] at this
  exact this
theorem place_l0' (o : List Int) (x : Int) (ho : o.length ≤ 4611686018427387900) (d : Nat) : ∀ (i k : Nat), i + d = o.length → d < k →
    clerestoryref1_placeIn.l0 k o x (i : Int) = some (if hasK (o.drop i) x = true then ((i + idx (o.drop i) x : Nat) : Int) else -1) := by
  induction d with
  | zero =>
    intro i k h hk
    obtain ⟨k, rfl⟩ : ∃ z, k = z + 1 := ⟨k - 1, by omega⟩
    rw [clerestoryref1_placeIn.l0, if_neg (by omega), List.drop_eq_nil_of_le (by omega)]
    rfl
  | succ d ih =>
    intro i k h hk
    obtain ⟨k, rfl⟩ : ∃ z, k = z + 1 := ⟨k - 1, by omega⟩
    rw [clerestoryref1_placeIn.l0, if_pos (by omega), if_pos (by omega), w1 i (by omega), ih (i + 1) k (by omega) (by omega), dropK o i (by omega), hasK_cons, idx]
    by_cases c : rd o (i : Int) = x
    · rw [if_pos c, decide_eq_true c, Bool.true_or, if_pos rfl, if_pos c]
      rfl
    · rw [if_neg c, decide_eq_false c, Bool.false_or, if_neg c]
      split
      · congr 1
        omega
      · rfl
theorem place_eq (o : List Int) (x : Int) (ho : o.length ≤ 4611686018427387900) (k : Nat) (hk : o.length < k) : clerestoryref1_placeIn.f k o x = some (idxI o x) := by
  unfold clerestoryref1_placeIn.f
  have := place_l0' o x ho o.length 0 k (by omega) hk
  rw [List.drop_zero, show ((0 : Nat) : Int) = 0 from rfl, Nat.zero_add] at this
  exact this
theorem idxI_mem {l : List Int} {x : Int} (h : x ∈ l) : idxI l x = (idx l x : Int) := if_pos ((mem_hasK l x).2 h)
theorem idx_lt : ∀ {l : List Int} {x : Int}, x ∈ l → idx l x < l.length
  | y :: t, x, h => by
    unfold idx
    by_cases c : y = x
    · rw [if_pos c]; simp
    · rw [if_neg c]
      have := idx_lt (l := t) (x := x) (by
        rcases List.mem_cons.1 h with e | e
        · exact absurd e.symm c
        · exact e)
      simp only [List.length_cons]
      omega
def relP (ns : List S43) : Nat → Int → List Int
  | 0, x => [x]
  | d + 1, x => upN ns (d + 1) x :: relP ns d x
theorem relP_len (ns : List S43) : ∀ (d : Nat) (x : Int), (relP ns d x).length = d + 1
  | 0, _ => rfl
  | d + 1, x => by simp [relP, relP_len ns d]
section
variable {ns : List S43} (h : Tree ns)
include h
theorem kid_len {i : Int} (h0 : 0 ≤ i) (h1 : i < ns.length) : (kidL ns i).length ≤ 200 := by
  have := few_of ns.length (kidL ns i) (h.once i h0 h1) fun x hx => ⟨(h.kid i x h0 h1 hx).1, (h.kid i x h0 h1 hx).2.1⟩
  have := h.many
  omega
theorem under_rel (q : Bool) {t : Int} (ht : 0 ≤ t) : ∀ (d : Nat) (x : Int), q0m ns x = d → 0 ≤ x → x < ns.length → ∀ k, d + 1 < k → clerestoryref1_Under.l0 k x t ns q = some (decide (t ∈ relP ns d x))
  | d, x, hd, h0, h1, k, hk => by
    obtain ⟨k, rfl⟩ : ∃ z, k = z + 1 := ⟨k - 1, by omega⟩
    rw [clerestoryref1_Under.l0]
    have hm : ∀ e y, y ∈ relP ns e y := fun e y => by induction e <;> simp [relP, *]
    by_cases c0 : x = t
    · subst c0
      rw [if_pos rfl, decide_eq_true (hm _ _)]
      simp
    · rw [if_neg c0, if_pos h0, if_pos h0, if_pos h1]
      show clerestoryref1_Under.l0 k (par ns x) t ns q = _
      by_cases c : par ns x < 0
      · have hd0 := deep_root h c
        obtain rfl : d = 0 := by omega
        obtain ⟨k, rfl⟩ : ∃ z, k = z + 1 := ⟨k - 1, by omega⟩
        rw [clerestoryref1_Under.l0, if_neg (by omega), if_neg (by omega)]
        have e1 : (par ns x == t) = false := beq_eq_false_iff_ne.2 (by omega)
        rw [e1, decide_eq_false (by simp [relP]; omega)]
      · rcases h.up x h0 h1 with hr | ⟨p0, p1, hx⟩
        · omega
        have hu := deep_up h h0 h1 p0
        obtain ⟨d', rfl⟩ : ∃ d', d = d' + 1 := ⟨d - 1, by omega⟩
        rw [under_rel q ht d' (par ns x) (by omega) p0 p1 k (by omega)]
        congr 1
        have e : ∀ e, t ∈ relP ns (e + 1) x ↔ t ∈ relP ns e (par ns x) := fun e => by
          induction e with
          | zero => simp [relP, upN]; intro hh; exact absurd hh.symm c0
          | succ e ih =>
            show t ∈ upN ns (e + 2) x :: relP ns (e + 1) x ↔ t ∈ upN ns (e + 1) (par ns x) :: relP ns e (par ns x)
            rw [List.mem_cons, List.mem_cons, ih]
            rfl
        exact decide_eq_decide.2 (e d').symm
theorem under_all (q : Bool) {x t : Int} (h0 : 0 ≤ x) (h1 : x < ns.length) (ht : 0 ≤ t) (k : Nat) (hk : 50 < k) : clerestoryref1_Under.f k ns q x t = some (decide (t ∈ relP ns (q0m ns x) x)) := by
  have hd := (h.deep x h0 h1).1
  exact under_rel h q ht _ x rfl h0 h1 k (by omega)
end
theorem mem_relP (ns : List S43) (t : Int) : ∀ (d : Nat) (x : Int), t ∈ relP ns d x ↔ ∃ m : Nat, m ≤ d ∧ upN ns m x = t
  | 0, x => by
    refine ⟨fun h => ⟨0, Nat.le_refl _, by rw [relP, List.mem_singleton] at h; exact h.symm⟩, fun ⟨m, h1, h2⟩ => ?_⟩
    obtain rfl : m = 0 := by omega
    rw [relP, List.mem_singleton]
    exact h2.symm
  | d + 1, x => by
    rw [relP, List.mem_cons, mem_relP ns t d x]
    constructor
    · rintro (e | ⟨m, h1, h2⟩)
      · exact ⟨d + 1, Nat.le_refl _, e.symm⟩
      · exact ⟨m, by omega, h2⟩
    · rintro ⟨m, h1, h2⟩
      by_cases e : m = d + 1
      · subst e; exact .inl h2.symm
      · exact .inr ⟨m, by omega, h2⟩
section
variable {ns : List S43} (h : Tree ns)
include h
theorem edBelow_rel {t : Int} (ht : 0 ≤ t) : ∀ (d : Nat) (x : Int), q0m ns x = d → 0 ≤ x → x < ns.length → ∀ k, d + 1 < k → edBelow ns t k x = some (decide (t ∈ relP ns d x))
  | d, x, hd, h0, h1, k, hk => by
    obtain ⟨k, rfl⟩ : ∃ z, k = z + 1 := ⟨k - 1, by omega⟩
    rw [edBelow, if_pos h0]
    by_cases c0 : x = t
    · rw [if_pos c0, decide_eq_true ((mem_relP ns t d x).2 ⟨0, Nat.zero_le _, c0⟩)]
    · rw [if_neg c0, if_pos h1]
      show edBelow ns t k (par ns x) = _
      by_cases c : par ns x < 0
      · have hd0 := deep_root h c
        obtain rfl : d = 0 := by omega
        obtain ⟨k, rfl⟩ : ∃ z, k = z + 1 := ⟨k - 1, by omega⟩
        rw [edBelow, if_neg (by omega)]
        have e1 : (par ns x == t) = false := beq_eq_false_iff_ne.2 (by omega)
        rw [e1, decide_eq_false (by simp [relP]; omega)]
      · rcases h.up x h0 h1 with hr | ⟨p0, p1, hx⟩
        · omega
        have hu := deep_up h h0 h1 p0
        obtain ⟨d', rfl⟩ : ∃ d', d = d' + 1 := ⟨d - 1, by omega⟩
        rw [edBelow_rel ht d' (par ns x) (by omega) p0 p1 k (by omega)]
        congr 1
        refine decide_eq_decide.2 ?_
        rw [mem_relP, mem_relP]
        constructor
        · rintro ⟨m, m1, m2⟩
          exact ⟨m + 1, by omega, m2⟩
        · rintro ⟨m, m1, m2⟩
          cases m with
          | zero => exact absurd m2 c0
          | succ m => exact ⟨m, by omega, m2⟩
end
theorem erase_eq {α : Type} (l : List α) (i : Nat) : l.eraseIdx i = l.take i ++ l.drop (i + 1) := List.eraseIdx_eq_take_drop_succ l i
theorem idx_split : ∀ {l : List Int} {x : Int}, x ∈ l → l = l.take (idx l x) ++ x :: l.drop (idx l x + 1)
  | y :: t, x, h => by
    unfold idx
    by_cases c : y = x
    · rw [if_pos c, c]; rfl
    · rw [if_neg c]
      have := idx_split (l := t) (x := x) (by
        rcases List.mem_cons.1 h with e | e
        · exact absurd e.symm c
        · exact e)
      show y :: t = y :: (t.take (idx t x) ++ x :: t.drop (idx t x + 1))
      rw [← this]
end Go.Proofs.YthjnallbbhnndaaDoor.Dm
namespace Go.Proofs.YthjnallbbhnndaaDoor.Dm
open Go Go.RowKit Go.Proofs.YthjnallbbhnndaaDoor.XDe Go.Proofs.YthjnallbbhnndaaDoorW.PrintWords Go.Proofs.YthjnallbbhnndaaDoorW.PrintLast
set_option maxRecDepth 10000
theorem un_self {ns : List S43} {n : Int} : n ∈ relP ns (q0m ns n) n := (mem_relP ns n _ n).2 ⟨0, Nat.zero_le _, rfl⟩
section
variable {ns : List S43} (h : Tree ns)
include h
theorem deep_upN : ∀ (m : Nat) (x : Int), m ≤ q0m ns x → 0 ≤ x → x < ns.length → 0 ≤ upN ns m x ∧ upN ns m x < ns.length ∧ q0m ns (upN ns m x) + m = q0m ns x
  | 0, x, _, h0, h1 => ⟨h0, h1, rfl⟩
  | m + 1, x, hm, h0, h1 => by
    rcases h.rank x h0 h1 with ⟨a, b⟩ | ⟨a, b, c⟩
    · omega
    · have := deep_upN m (par ns x) (by omega) a b
      refine ⟨this.1, this.2.1, ?_⟩
      have e : upN ns (m + 1) x = upN ns m (par ns x) := rfl
      rw [e]
      omega
theorem un_root {n i : Int} (hp : par ns i < 0) (hne : i ≠ n) : n ∉ relP ns (q0m ns i) i := by
  rw [mem_relP, deep_root h hp]
  rintro ⟨m, h1, h2⟩
  obtain rfl : m = 0 := by omega
  exact hne h2
theorem un_up {n i : Int} (h0 : 0 ≤ i) (h1 : i < ns.length) (hp : 0 ≤ par ns i) (hne : i ≠ n) : n ∈ relP ns (q0m ns i) i ↔ n ∈ relP ns (q0m ns (par ns i)) (par ns i) := by
  rw [mem_relP, mem_relP, deep_up h h0 h1 hp]
  constructor
  · rintro ⟨m, m1, m2⟩
    cases m with
    | zero => exact absurd m2 hne
    | succ m => exact ⟨m, by omega, m2⟩
  · rintro ⟨m, m1, m2⟩
    exact ⟨m + 1, by omega, m2⟩
theorem un_deep {n i : Int} (h0 : 0 ≤ i) (h1 : i < ns.length) (hu : n ∈ relP ns (q0m ns i) i) : q0m ns n ≤ q0m ns i := by
  obtain ⟨m, m1, m2⟩ := (mem_relP ns n _ i).1 hu
  have := (deep_upN h m i m1 h0 h1).2.2
  rw [m2] at this
  omega
theorem sub_self {t : Int} (h0 : 0 ≤ t) (h1 : t < ns.length) : t ∈ sub ns t := by rw [sub_eq h h0 h1]; simp
theorem sub_trans : ∀ (d : Nat) (t : Int), 41 - q0m ns t ≤ d → 0 ≤ t → t < ns.length → ∀ y x, y ∈ sub ns t → x ∈ kidL ns y → x ∈ sub ns t
  | 0, t, hd, h0, h1 => by have := (h.deep t h0 h1).1; omega
  | d + 1, t, hd, h0, h1 => fun y x hy hx => by
    rw [sub_eq h h0 h1] at hy ⊢
    rcases List.mem_cons.1 hy with e | hy
    · subst e
      have hk := h.kid y x h0 h1 hx
      exact List.mem_cons_of_mem _ (List.mem_flatMap.2 ⟨x, hx, sub_self h hk.1 hk.2.1⟩)
    · obtain ⟨c, hc, hyc⟩ := List.mem_flatMap.1 hy
      obtain ⟨c0, c1, -⟩ := h.kid t c h0 h1 hc
      have := deep_kid h h0 h1 hc
      exact List.mem_cons_of_mem _ (List.mem_flatMap.2 ⟨c, hc, sub_trans d c (by omega) c0 c1 y x hyc hx⟩)
theorem sub_of_up {t : Int} (t0 : 0 ≤ t) (t1 : t < ns.length) : ∀ (m : Nat) (x : Int), m ≤ q0m ns x → 0 ≤ x → x < ns.length → upN ns m x = t → x ∈ sub ns t
  | 0, x, _, h0, h1, e => by
    have e : x = t := e
    rw [e]; exact sub_self h t0 t1
  | m + 1, x, hm, h0, h1, e => by
    rcases h.up x h0 h1 with a | ⟨a, b, c⟩
    · have := deep_root h (i := x) (by omega); omega
    · have hu := deep_up h h0 h1 a
      exact sub_trans h _ t (Nat.le_refl _) t0 t1 _ _ (sub_of_up t0 t1 m (par ns x) (by omega) a b e) c
theorem un_iff {t x : Int} (t0 : 0 ≤ t) (t1 : t < ns.length) (h0 : 0 ≤ x) (h1 : x < ns.length) : t ∈ relP ns (q0m ns x) x ↔ x ∈ sub ns t := by
  rw [mem_relP]
  constructor
  · rintro ⟨m, m1, m2⟩
    exact sub_of_up h t0 t1 m x m1 h0 h1 m2
  · intro hx
    have := sub_facts h t0 t1 hx
    exact ⟨q0m ns x - q0m ns t, by omega, this.2.2.2⟩
end
def IsH (ns : List S43) (i : Int) (m : Nat) : Prop := (∀ x ∈ sub ns i, q0m ns x ≤ q0m ns i + m) ∧ ∃ x ∈ sub ns i, q0m ns x = q0m ns i + m
theorem edDeepL_eq {ns : List S43} (B : Nat) (l : List Int) (hl : l.length ≤ 1000) (H : ∀ c ∈ l, ∀ k, B < k → ∃ m : Nat, m ≤ 100 ∧ edDeep ns k c = some (m : Int) ∧ IsH ns c m) (d : Nat) : ∀ (j k mo : Nat), j + d = l.length → d + B < k → mo ≤ 200 →
    ∃ m : Nat, edDeepL ns k l (j : Int) (mo : Int) = some (m : Int) ∧ mo ≤ m ∧ (∀ c ∈ l.drop j, ∃ mc, IsH ns c mc ∧ mc + 1 ≤ m) ∧ (m = mo ∨ ∃ c ∈ l.drop j, ∃ mc, IsH ns c mc ∧ m = mc + 1) := by
  induction d with
  | zero =>
    intro j k mo hj hk hm
    obtain ⟨k, rfl⟩ : ∃ z, k = z + 1 := ⟨k - 1, by omega⟩
    refine ⟨mo, by rw [edDeepL, if_neg (by omega)], Nat.le_refl _, fun c hc => ?_, .inl rfl⟩
    rw [List.drop_eq_nil_of_le (by omega)] at hc
    cases hc
  | succ d ih =>
    intro j k mo hj hk hm
    obtain ⟨k, rfl⟩ : ∃ z, k = z + 1 := ⟨k - 1, by omega⟩
    have hin : rd l (j : Int) ∈ l := by
      have e : rd l (j : Int) = l[j] := by simp [rd, List.getD, show j < l.length by omega]
      rw [e]; exact List.getElem_mem _
    obtain ⟨mc, hmc, he, hH⟩ := H _ hin k (by omega)
    rw [edDeepL, if_pos (by omega), if_pos (by omega), he, Option.bind_some, show wrap64 ((mc : Int) + 1) = ((mc + 1 : Nat) : Int) by unfold wrap64; omega, w1 j (by omega)]
    rw [dropK l j (by omega)]
    by_cases c : (mo : Int) < ((mc + 1 : Nat) : Int)
    · rw [if_pos c]
      obtain ⟨m, e, h1, h2, h3⟩ := ih (j + 1) k (mc + 1) (by omega) (by omega) (by omega)
      refine ⟨m, e, by omega, fun x hx => ?_, ?_⟩
      · rcases List.mem_cons.1 hx with rfl | hx
        · exact ⟨mc, hH, h1⟩
        · exact h2 x hx
      · rcases h3 with rfl | ⟨x, hx, y, hy⟩
        · exact .inr ⟨_, List.mem_cons_self, mc, hH, rfl⟩
        · exact .inr ⟨x, List.mem_cons_of_mem _ hx, y, hy⟩
    · rw [if_neg c]
      obtain ⟨m, e, h1, h2, h3⟩ := ih (j + 1) k mo (by omega) (by omega) hm
      refine ⟨m, e, h1, fun x hx => ?_, ?_⟩
      · rcases List.mem_cons.1 hx with rfl | hx
        · exact ⟨mc, hH, by omega⟩
        · exact h2 x hx
      · rcases h3 with rfl | ⟨x, hx, y, hy⟩
        · exact .inl rfl
        · exact .inr ⟨x, List.mem_cons_of_mem _ hx, y, hy⟩
section
variable {ns : List S43} (h : Tree ns)
include h
theorem edDeep_eq : ∀ (d : Nat) (i : Int), 41 - q0m ns i ≤ d → 0 ≤ i → i < ns.length → ∀ k, 210 * d < k → ∃ m : Nat, m ≤ 100 ∧ edDeep ns k i = some (m : Int) ∧ IsH ns i m
  | 0, i, hd, h0, h1 => by have := (h.deep i h0 h1).1; omega
  | d + 1, i, hd, h0, h1 => fun k hk => by
    obtain ⟨k, rfl⟩ : ∃ z, k = z + 1 := ⟨k - 1, by omega⟩
    have hl := kid_len h h0 h1
    have K : ∀ c ∈ kidL ns i, 0 ≤ c ∧ c < ns.length ∧ q0m ns c = q0m ns i + 1 := fun c hc => ⟨(h.kid i c h0 h1 hc).1, (h.kid i c h0 h1 hc).2.1, deep_kid h h0 h1 hc⟩
    obtain ⟨m, e, -, h2, h3⟩ := edDeepL_eq (210 * d) (kidL ns i) (by omega) (fun c hc k hk => edDeep_eq d c (by have := (K c hc).2.2; omega) (K c hc).1 (K c hc).2.1 k hk) (kidL ns i).length 0 k 0 (by omega) (by omega) (by omega)
    rw [List.drop_zero] at h2 h3
    have hH : IsH ns i m := by
      constructor
      · intro x hx
        rw [sub_eq h h0 h1] at hx
        rcases List.mem_cons.1 hx with rfl | hx
        · omega
        · obtain ⟨c, hc, hxc⟩ := List.mem_flatMap.1 hx
          obtain ⟨mc, hm, hle⟩ := h2 c hc
          have := hm.1 x hxc
          have := (K c hc).2.2
          omega
      · rcases h3 with rfl | ⟨c, hc, mc, hm, rfl⟩
        · exact ⟨i, sub_self h h0 h1, by omega⟩
        · obtain ⟨x, hx, ex⟩ := hm.2
          refine ⟨x, ?_, by have := (K c hc).2.2; omega⟩
          rw [sub_eq h h0 h1]
          exact List.mem_cons_of_mem _ (List.mem_flatMap.2 ⟨c, hc, hx⟩)
    refine ⟨m, ?_, ?_, hH⟩
    · obtain ⟨x, hx, ex⟩ := hH.2
      have := sub_facts h h0 h1 hx
      have := (h.deep x this.1 this.2.1).1
      omega
    · rw [edDeep, if_pos h0, if_pos h1]
      exact e
end
structure Moved (ns ms : List S43) (n p pn : Int) (l : List Int) : Prop where
  len : ms.length = ns.length
  par : ∀ i : Int, 0 ≤ i → Dm.par ms i = if i = n then pn else Dm.par ns i
  kid : ∀ i : Int, 0 ≤ i → kidL ms i = if i = p then l else kidL ns i
  kind : ∀ i : Int, 0 ≤ i → kindN ms i = kindN ns i
  node : ∀ i : Int, 0 ≤ i → i < ns.length → q1w (q00 ms i) = 0
theorem moved {ns : List S43} (h : DocOk ns) {n p : Int} (n0 : 0 ≤ n) (n1 : n < ns.length) (p0 : 0 ≤ p) (p1 : p < ns.length) (hne : n ≠ p) (hk : kindN ns p = 1 ∨ kindN ns p = 2) (pn : Int) (l : List Int) :
    Moved ns ((ns.set p.toNat { q00 ns p with f5 := l }).set n.toNat { q00 ns n with f4 := pn }) n p pn l := by
  have r : ∀ i : Int, 0 ≤ i → q00 ((ns.set p.toNat { q00 ns p with f5 := l }).set n.toNat { q00 ns n with f4 := pn }) i = if i = n then { q00 ns n with f4 := pn } else if i = p then { q00 ns p with f5 := l } else q00 ns i := fun i hi => by
    rw [rd_setN _ n _ i n0 (by rw [List.length_set]; exact n1) hi, rd_setN _ p _ i p0 p1 hi]
  refine ⟨by rw [List.length_set, List.length_set], fun i hi => ?_, fun i hi => ?_, fun i hi => ?_, fun i hi h1 => ?_⟩
  · show (q00 _ i).f4 = _
    rw [r i hi]
    by_cases e : i = n
    · rw [if_pos e, if_pos e]
    · rw [if_neg e, if_neg e]
      by_cases e2 : i = p
      · rw [if_pos e2, e2]; rfl
      · rw [if_neg e2]; rfl
  · show (q00 _ i).f5 = _
    rw [r i hi]
    by_cases e : i = n
    · rw [if_pos e, if_neg (by rw [e]; exact hne), e]; rfl
    · rw [if_neg e]
      by_cases e2 : i = p
      · rw [if_pos e2, if_pos e2]
      · rw [if_neg e2, if_neg e2]; rfl
  · show (q00 _ i).f0 = _
    rw [r i hi]
    by_cases e : i = n
    · rw [if_pos e, e]; rfl
    · rw [if_neg e]
      by_cases e2 : i = p
      · rw [if_pos e2, e2]; rfl
      · rw [if_neg e2]; rfl
  · rw [r i hi]
    by_cases e : i = n
    · rw [if_pos e]; exact node_par (h.node n n0 n1) pn
    · rw [if_neg e]
      by_cases e2 : i = p
      · rw [if_pos e2]; exact node_kids (h.node p p0 p1) hk l
      · rw [if_neg e2]; exact h.node i hi h1
theorem DocOk.left {ns ms : List S43} (h : DocOk ns) {n p : Int} (n0 : 0 ≤ n) (n1 : n < ns.length) (p0 : 0 ≤ p) (hp : par ns n = p) (m : Moved ns ms n p (-1) ((kidL ns p).eraseIdx (idx (kidL ns p) n))) : DocOk ms := by
  have ht := h.tree
  obtain ⟨-, p1, hin⟩ : 0 ≤ p ∧ p < ns.length ∧ n ∈ kidL ns p := by
    rcases h.up n n0 n1 with e | e
    · omega
    · rw [hp] at e; exact e
  have sp := idx_split hin
  have hnd := h.once p p0 p1
  have hl : ∀ c, c ∈ (kidL ns p).eraseIdx (idx (kidL ns p) n) ↔ c ∈ kidL ns p ∧ c ≠ n := fun c => by
    rw [erase_eq]
    rw [sp] at hnd
    generalize (kidL ns p).take (idx (kidL ns p) n) = A at *
    generalize (kidL ns p).drop (idx (kidL ns p) n + 1) = B at *
    rw [sp]
    rw [List.nodup_append] at hnd
    obtain ⟨a1, a2, a3⟩ := hnd
    rw [List.nodup_cons] at a2
    simp only [List.mem_append, List.mem_cons]
    constructor
    · rintro (e | e)
      · exact ⟨.inl e, a3 c e n (by simp)⟩
      · exact ⟨.inr (.inr e), fun e2 => a2.1 (e2 ▸ e)⟩
    · rintro ⟨e | e | e, e2⟩
      · exact .inl e
      · exact absurd e e2
      · exact .inr e
  have hs : q0m ns n = q0m ns p + 1 := by have := deep_up ht n0 n1 (by rw [hp]; exact p0); rw [hp] at this; exact this
  have hdp : ∀ i : Int, 0 ≤ i → i < ms.length → q0m ms i = (if n ∈ relP ns (q0m ns i) i then q0m ns i - q0m ns n else q0m ns i) ∧ q0m ms i < ms.length := fun i i0 i1 => by
    refine deep_of_rank (ns := ms) (fun i => if n ∈ relP ns (q0m ns i) i then q0m ns i - q0m ns n else q0m ns i) (fun i h0 h1 => ?_) i0 i1
    rw [m.len] at h1
    rw [m.par i h0]
    by_cases e : i = n
    · rw [if_pos e, e, if_pos (un_self)]
      exact .inl ⟨by omega, by omega⟩
    · rw [if_neg e]
      rcases ht.rank i h0 h1 with ⟨a, b⟩ | ⟨a, b, c⟩
      · rw [if_neg (un_root ht a e)]
        exact .inl ⟨a, b⟩
      · refine .inr ⟨a, by rw [m.len]; exact b, ?_⟩
        by_cases u : n ∈ relP ns (q0m ns i) i
        · have u2 := (un_up ht h0 h1 a e).1 u
          have := un_deep ht a b u2
          rw [if_pos u, if_pos u2]
          omega
        · rw [if_neg u, if_neg (fun u2 => u ((un_up ht h0 h1 a e).2 u2))]
          exact c
  refine ⟨by rw [m.len]; exact h.many, by rw [m.len]; exact h.some_, fun i h0 h1 => m.node i h0 (by rw [← m.len]; exact h1), fun i h0 h1 => ?_, ?_, fun i c h0 h1 hi => ?_, fun i h0 h1 => ?_, fun c hi => ?_, fun i h0 h1 => ?_, fun i h0 h1 => ?_⟩
  · rw [m.kind i h0]; exact h.kind i h0 (by rw [← m.len]; exact h1)
  · rw [m.par 0 (by omega)]
    by_cases e : (0 : Int) = n
    · rw [if_pos e]
    · rw [if_neg e]; exact h.root
  · rw [m.len] at h1 ⊢
    rw [m.kid i h0] at hi
    by_cases e : i = p
    · rw [if_pos e] at hi
      obtain ⟨c1, c2⟩ := (hl c).1 hi
      obtain ⟨a, b, e2⟩ := h.kid p c p0 p1 c1
      exact ⟨a, b, by rw [m.par c a, if_neg c2, e]; exact e2⟩
    · rw [if_neg e] at hi
      obtain ⟨a, b, e2⟩ := h.kid i c h0 h1 hi
      refine ⟨a, b, ?_⟩
      rw [m.par c a, if_neg (fun e3 => e (by rw [← e2, e3, hp]))]
      exact e2
  · rw [m.len] at h1
    rw [m.kid i h0]
    by_cases e : i = p
    · rw [if_pos e]; exact hnd.sublist (List.eraseIdx_sublist _ _)
    · rw [if_neg e]; exact h.once i h0 h1
  · have h00 := h.some_
    rw [m.kid 0 (by omega)] at hi
    have hc : c ∈ kidL ns 0 := by
      by_cases e : (0 : Int) = p
      · rw [if_pos e] at hi
        rw [e]
        exact ((hl c).1 hi).1
      · rw [if_neg e] at hi; exact hi
    rw [m.kind c (h.kid 0 c (by omega) (by omega) hc).1]
    exact h.text c hc
  · rw [m.len] at h1 ⊢
    rw [m.par i h0]
    by_cases e : i = n
    · rw [if_pos e]; exact .inl rfl
    · rw [if_neg e]
      rcases h.up i h0 h1 with a | ⟨a, b, c⟩
      · exact .inl a
      · refine .inr ⟨a, b, ?_⟩
        rw [m.kid _ a]
        by_cases e2 : par ns i = p
        · rw [if_pos e2]; rw [e2] at c; exact (hl i).2 ⟨c, e⟩
        · rw [if_neg e2]; exact c
  · obtain ⟨e1, e2⟩ := hdp i h0 h1
    have := h.deep i h0 (by rw [← m.len]; exact h1)
    refine ⟨?_, by omega⟩
    rw [e1]
    split <;> omega
theorem DocOk.put {ns ms : List S43} (h : DocOk ns) {a t : Int} (a0 : 0 ≤ a) (a1 : a < ns.length) (t0 : 0 < t) (t1 : t < ns.length) (hp : par ns t < 0) (hu : t ∉ relP ns (q0m ns a) a) (htx : a = 0 → kindN ns t ≠ 3) (i : Nat) (m : Moved ns ms t a a ((kidL ns a).take i ++ t :: (kidL ns a).drop i)) (H : Nat) (hH : IsH ns t H) :
    DocOk ms ↔ q0m ns a + 1 + H ≤ 40 := by
  have ht := h.tree
  have hd0 := deep_root ht hp
  have hmem : ∀ c, c ∈ (kidL ns a).take i ++ t :: (kidL ns a).drop i ↔ c = t ∨ c ∈ kidL ns a := fun c => by
    conv => rhs; rw [← List.take_append_drop i (kidL ns a)]
    simp only [List.mem_append, List.mem_cons]
    constructor
    · rintro (e | e | e)
      · exact .inr (.inl e)
      · exact .inl e
      · exact .inr (.inr e)
    · rintro (e | e | e)
      · exact .inr (.inl e)
      · exact .inl e
      · exact .inr (.inr e)
  have hta : t ∉ kidL ns a := fun e => by
    have := (h.kid a t a0 a1 e).2.2
    omega
  have hdp : ∀ i : Int, 0 ≤ i → i < ms.length → q0m ms i = (if t ∈ relP ns (q0m ns i) i then q0m ns i + (q0m ns a + 1) else q0m ns i) ∧ q0m ms i < ms.length := fun i i0 i1 => by
    refine deep_of_rank (ns := ms) (fun i => if t ∈ relP ns (q0m ns i) i then q0m ns i + (q0m ns a + 1) else q0m ns i) (fun i h0 h1 => ?_) i0 i1
    rw [m.len] at h1
    rw [m.par i h0]
    by_cases e : i = t
    · rw [if_pos e, e, if_pos (un_self), if_neg hu, hd0]
      exact .inr ⟨a0, by rw [m.len]; exact a1, by omega⟩
    · rw [if_neg e]
      rcases ht.rank i h0 h1 with ⟨x, b⟩ | ⟨x, b, c⟩
      · rw [if_neg (un_root ht x e)]
        exact .inl ⟨x, b⟩
      · refine .inr ⟨x, by rw [m.len]; exact b, ?_⟩
        by_cases u : t ∈ relP ns (q0m ns i) i
        · rw [if_pos u, if_pos ((un_up ht h0 h1 x e).1 u)]
          omega
        · rw [if_neg u, if_neg (fun u2 => u ((un_up ht h0 h1 x e).2 u2))]
          exact c
  constructor
  · intro hd
    obtain ⟨x, hx, ex⟩ := hH.2
    have hf := sub_facts ht (by omega) t1 hx
    have := (hd.deep x hf.1 (by rw [m.len]; exact hf.2.1)).1
    rw [(hdp x hf.1 (by rw [m.len]; exact hf.2.1)).1, if_pos ((un_iff ht (by omega) t1 hf.1 hf.2.1).2 hx)] at this
    omega
  · intro hle
    refine ⟨by rw [m.len]; exact h.many, by rw [m.len]; exact h.some_, fun i h0 h1 => m.node i h0 (by rw [← m.len]; exact h1), fun i h0 h1 => ?_, ?_, fun j c h0 h1 hi => ?_, fun j h0 h1 => ?_, fun c hi => ?_, fun j h0 h1 => ?_, fun j h0 h1 => ?_⟩
    · rw [m.kind i h0]; exact h.kind i h0 (by rw [← m.len]; exact h1)
    · rw [m.par 0 (by omega), if_neg (by omega)]; exact h.root
    · rw [m.len] at h1 ⊢
      rw [m.kid j h0] at hi
      by_cases e : j = a
      · rw [if_pos e] at hi
        rcases (hmem c).1 hi with e2 | e2
        · rw [e2]
          exact ⟨by omega, t1, by rw [m.par t (by omega), if_pos rfl, e]⟩
        · obtain ⟨x, b, y⟩ := h.kid a c a0 a1 e2
          exact ⟨x, b, by rw [m.par c x, if_neg (fun e3 => hta (by rw [← e3]; exact e2)), e]; exact y⟩
      · rw [if_neg e] at hi
        obtain ⟨x, b, y⟩ := h.kid j c h0 h1 hi
        refine ⟨x, b, ?_⟩
        rw [m.par c x, if_neg (fun e3 => by rw [e3] at y; omega)]
        exact y
    · rw [m.len] at h1
      rw [m.kid j h0]
      by_cases e : j = a
      · rw [if_pos e]
        have hnd := h.once a a0 a1
        rw [← List.take_append_drop i (kidL ns a)] at hnd hta
        rw [List.nodup_append] at hnd ⊢
        rw [List.mem_append] at hta
        refine ⟨hnd.1, List.nodup_cons.2 ⟨fun e => hta (.inr e), hnd.2.1⟩, fun x hx y hy => ?_⟩
        rcases List.mem_cons.1 hy with e2 | e2
        · rw [e2]; exact fun e3 => hta (.inl (e3 ▸ hx))
        · exact hnd.2.2 x hx y e2
      · rw [if_neg e]; exact h.once j h0 h1
    · have h00 := h.some_
      rw [m.kid 0 (by omega)] at hi
      by_cases e : (0 : Int) = a
      · rw [if_pos e] at hi
        rcases (hmem c).1 hi with e2 | e2
        · rw [e2, m.kind t (by omega)]; exact htx e.symm
        · rw [← e] at e2
          rw [m.kind c (h.kid 0 c (by omega) (by omega) e2).1]; exact h.text c e2
      · rw [if_neg e] at hi
        rw [m.kind c (h.kid 0 c (by omega) (by omega) hi).1]; exact h.text c hi
    · rw [m.len] at h1 ⊢
      rw [m.par j h0]
      by_cases e : j = t
      · rw [if_pos e]
        exact .inr ⟨a0, a1, by rw [m.kid a a0, if_pos rfl, e]; exact (hmem t).2 (.inl rfl)⟩
      · rw [if_neg e]
        rcases h.up j h0 h1 with x | ⟨x, b, c⟩
        · exact .inl x
        · refine .inr ⟨x, b, ?_⟩
          rw [m.kid _ x]
          by_cases e2 : par ns j = a
          · rw [if_pos e2]; rw [e2] at c; exact (hmem j).2 (.inr c)
          · rw [if_neg e2]; exact c
    · obtain ⟨e1, e2⟩ := hdp j h0 h1
      have := h.deep j h0 (by rw [← m.len]; exact h1)
      refine ⟨?_, by omega⟩
      rw [e1]
      by_cases u : t ∈ relP ns (q0m ns j) j
      · rw [if_pos u]
        have := hH.1 j ((un_iff ht (by omega) t1 h0 (by rw [← m.len]; exact h1)).1 u)
        omega
      · rw [if_neg u]; exact this.1
end Go.Proofs.YthjnallbbhnndaaDoor.Dm
namespace Go.Proofs.YthjnallbbhnndaaDoor.Dm
open Go Go.RowKit Go.Proofs.YthjnallbbhnndaaDoor.XDe Go.Proofs.YthjnallbbhnndaaDoorW.PrintWords Go.Proofs.YthjnallbbhnndaaDoorW.PrintLast
set_option maxRecDepth 10000
theorem sameInts_l0 (l : List Int) (hl : l.length ≤ 1000000) (d : Nat) : ∀ (i k : Nat), i + d = l.length → d < k → clerestoryref1_SameInts.l0 k l l (i : Int) = some true := by
  induction d with
  | zero =>
    intro i k hi hk
    obtain ⟨k, rfl⟩ : ∃ z, k = z + 1 := ⟨k - 1, by omega⟩
    rw [clerestoryref1_SameInts.l0, if_neg (by omega)]
  | succ d ih =>
    intro i k hi hk
    obtain ⟨k, rfl⟩ : ∃ z, k = z + 1 := ⟨k - 1, by omega⟩
    rw [clerestoryref1_SameInts.l0, if_pos (by omega), if_pos (by omega), if_pos (by omega), if_pos rfl, w1 i (by omega), ih (i + 1) k (by omega) (by omega)]
theorem sameInts_self (l : List Int) (hl : l.length ≤ 1000000) (k : Nat) (hk : l.length < k) : clerestoryref1_SameInts.f k l l = some true := by
  unfold clerestoryref1_SameInts.f
  rw [if_pos rfl]
  exact sameInts_l0 l hl l.length 0 k (by omega) hk
theorem sameAttrs_l0 (l : List S122) (hl : l.length ≤ 1000000) (d : Nat) : ∀ (i k : Nat), i + d = l.length → d < k → clerestoryref1_SameAttrs.l0 k l l (i : Int) = some true := by
  induction d with
  | zero =>
    intro i k hi hk
    obtain ⟨k, rfl⟩ : ∃ z, k = z + 1 := ⟨k - 1, by omega⟩
    rw [clerestoryref1_SameAttrs.l0, if_neg (by omega)]
  | succ d ih =>
    intro i k hi hk
    obtain ⟨k, rfl⟩ : ∃ z, k = z + 1 := ⟨k - 1, by omega⟩
    rw [clerestoryref1_SameAttrs.l0, if_pos (by omega), if_pos (by omega), if_pos (by omega), if_neg (by simp), w1 i (by omega), ih (i + 1) k (by omega) (by omega)]
theorem sameAttrs_self (l : List S122) (hl : l.length ≤ 1000000) (k : Nat) (hk : l.length < k) : clerestoryref1_SameAttrs.f k l l = some true := by
  unfold clerestoryref1_SameAttrs.f
  rw [if_pos rfl]
  exact sameAttrs_l0 l hl l.length 0 k (by omega) hk
theorem sameNode_self (x : S43) (h2 : x.f2.length ≤ 1000) (h5 : x.f5.length ≤ 1000) (k : Nat) (hk : 1000 < k) : clerestoryref1_SameNode.f k x.f0 x.f1 x.f2 x.f3 x.f4 x.f5 x.f0 x.f1 x.f2 x.f3 x.f4 x.f5 = some true := by
  unfold clerestoryref1_SameNode.f
  rw [if_pos rfl, if_pos rfl, if_pos rfl, if_pos rfl, sameAttrs_self _ (by omega) k (by omega), Option.bind_some, if_pos rfl, sameInts_self _ (by omega) k (by omega), Option.bind_some]
theorem sameDoc_l0 (ns : List S43) (hl : ns.length ≤ 1000) (hn : ∀ i : Int, (q00 ns i).f2.length ≤ 1000 ∧ (q00 ns i).f5.length ≤ 1000) (K : Nat) (hK : 1000 < K) (d : Nat) : ∀ (i k : Nat), i + d = ns.length → d < k → clerestoryref1_SameDoc.l0 K k (i : Int) ns ns = some true := by
  induction d with
  | zero =>
    intro i k hi hk
    obtain ⟨k, rfl⟩ : ∃ z, k = z + 1 := ⟨k - 1, by omega⟩
    rw [clerestoryref1_SameDoc.l0, if_neg (by omega)]
  | succ d ih =>
    intro i k hi hk
    obtain ⟨k, rfl⟩ : ∃ z, k = z + 1 := ⟨k - 1, by omega⟩
    rw [clerestoryref1_SameDoc.l0, if_pos (by omega), if_pos ⟨by omega, by omega⟩, sameNode_self _ (hn _).1 (hn _).2 K hK, Option.bind_some, if_pos rfl, w1 i (by omega), ih (i + 1) k (by omega) (by omega)]
theorem sameDoc_self (ns : List S43) (q : Bool) (hl : ns.length ≤ 1000) (hn : ∀ i : Int, (q00 ns i).f2.length ≤ 1000 ∧ (q00 ns i).f5.length ≤ 1000) (k : Nat) (hk : ns.length + 1002 < k) : clerestoryref1_SameDoc.f k ns q ns q = some true := by
  unfold clerestoryref1_SameDoc.f
  rw [if_pos ⟨rfl, rfl⟩]
  exact sameDoc_l0 ns hl hn k (by omega) ns.length 0 k (by omega) (by omega)
theorem rd_all {ns : List S43} {P : S43 → Prop} (hz : P z43) (h : ∀ y ∈ ns, P y) (i : Int) : P (q00 ns i) := by
  by_cases c : i.toNat < ns.length
  · have e : q00 ns i = ns[i.toNat] := by simp [q00, List.getD, c]
    rw [e]
    exact h _ (List.getElem_mem c)
  · have e : q00 ns i = z43 := by simp [q00, List.getD, c]
    rw [e]
    exact hz
def small (M : Nat) (y : S43) : Prop := y.f2.length ≤ M ∧ y.f5.length ≤ M
theorem small_z (M : Nat) : small M z43 := ⟨Nat.zero_le _, Nat.zero_le _⟩
theorem DocOk.small {ns : List S43} (h : DocOk ns) : ∀ y ∈ ns, Dm.small 200 y := fun y hy => by
  obtain ⟨j, hj, rfl⟩ := List.mem_iff_getElem.1 hy
  have e : q00 ns (j : Int) = ns[j] := by simp [q00, List.getD, hj]
  have h1 := h.node j (by omega) (by omega)
  have h2 := kid_len h.tree (i := j) (by omega) (by omega)
  rw [q1v] at h1
  unfold kidL at h2
  rw [e] at h1 h2
  have := h1.2.2.2.2.1
  exact ⟨by omega, h2⟩
theorem small_kids {ns : List S43} {M : Nat} (h : ∀ y ∈ ns, small M y) : KidsLe ns M := fun i => (rd_all (P := small M) (small_z M) h i).2
theorem small_set {ns : List S43} {M : Nat} (h : ∀ y ∈ ns, small M y) (n : Nat) {x : S43} (hx : small M x) : ∀ y ∈ ns.set n x, small M y := fun y hy => by
  rcases List.mem_or_eq_of_mem_set hy with e | e
  · exact h y e
  · rw [e]; exact hx
theorem small_more {ns : List S43} {M : Nat} (h : ∀ y ∈ ns, small M y) {x : S43} (hx : small M x) : ∀ y ∈ ns ++ [x], small M y := fun y hy => by
  rcases List.mem_append.1 hy with e | e
  · exact h y e
  · rw [List.mem_singleton] at e; rw [e]; exact hx
theorem small_up {ns : List S43} {M M' : Nat} (hM : M ≤ M') (h : ∀ y ∈ ns, small M y) : ∀ y ∈ ns, small M' y := fun y hy => ⟨Nat.le_trans (h y hy).1 hM, Nat.le_trans (h y hy).2 hM⟩
theorem copy_l0 (ns : List S43) (q : Bool) (hl : ns.length ≤ 1000) (hn : ∀ i : Int, (q00 ns i).f2.length ≤ 1000 ∧ (q00 ns i).f5.length ≤ 1000) (d : Nat) : ∀ (i k : Nat), i + d = ns.length → d < k → clerestoryref1_copyDoc.l0 k (i : Int) ns q (ns.take i) q = some (ns, q) := by
  induction d with
  | zero =>
    intro i k hi hk
    obtain ⟨k, rfl⟩ : ∃ z, k = z + 1 := ⟨k - 1, by omega⟩
    rw [clerestoryref1_copyDoc.l0, if_neg (by omega), List.take_of_length_le (by omega)]
  | succ d ih =>
    intro i k hi hk
    obtain ⟨k, rfl⟩ : ∃ z, k = z + 1 := ⟨k - 1, by omega⟩
    have hb := hn (i : Int)
    have e : ns.take (i + 1) = ns.take i ++ [q00 ns (i : Int)] := by
      rw [List.take_succ_eq_append_getElem (by omega)]
      congr 1
      simp [q00, List.getD, show i < ns.length by omega]
    have := ih (i + 1) k (by omega) (by omega)
    rw [e] at this
    rw [clerestoryref1_copyDoc.l0, if_pos (by omega), if_pos (by omega), Option.bind_some, if_pos (by simp only [List.length_nil]; omega), Option.bind_some, if_pos (by simp only [List.length_nil]; omega), if_pos (by rw [List.length_take]; omega), w1 i (by omega)]
    exact this
theorem copy_eq (ns : List S43) (q : Bool) (hl : ns.length ≤ 1000) (hn : ∀ i : Int, (q00 ns i).f2.length ≤ 1000 ∧ (q00 ns i).f5.length ≤ 1000) (k : Nat) (hk : ns.length < k) : clerestoryref1_copyDoc.f k ns q = some (ns, q) := by
  unfold clerestoryref1_copyDoc.f
  exact copy_l0 ns q hl hn ns.length 0 k (by omega) hk
theorem btw (a lo hi : Int) : clerestoryref1_between.f a lo hi = some (decide (lo ≤ a ∧ a ≤ hi)) := by
  unfold clerestoryref1_between.f
  by_cases c : a ≥ lo
  · rw [if_pos c]
    congr 1
    exact decide_eq_decide.2 ⟨fun h => ⟨c, h⟩, fun h => h.2⟩
  · rw [if_neg c, decide_eq_false (fun h => c h.1)]
theorem edited_made {ns : List S43} (h : DocOk ns) (q : Bool) (e0 e1 e2 e3 : Int) (e4 e5 : ByteArray) (e6 : Int) (e7 : ByteArray) (l8 : List S122) (e9 : ByteArray) (e10 : Int) (l11 : List Int) (k : Nat) (hk : 200000 < k)
    (hE : clerestoryref1_EditErr.f k ns q e0 e1 e2 e3 e4 e5 e6 e7 l8 e9 e10 l11 = some 0) {p : List S43} {m : Int} (hN : q1t k ns e0 e1 e2 e3 e4 e5 e6 e7 l8 e9 = some (p, m)) (hp : ∀ y ∈ p, small 300 y) (hl : p.length ≤ 201) {r : Int} (hr : r = 0 ∨ r = 2) (hd : DocOk p ↔ r = 0) :
    clerestoryref1_Edited.f k ns q e0 e1 e2 e3 e4 e5 e6 e7 l8 e9 e10 l11 = some (if r ≠ 0 then ([], false, 0, r) else (p, q, m, 0)) := by
  have hs := small_up (M' := 1000) (by omega) h.small
  have hm := h.many
  have h1 := h.some_
  have hD : clerestoryref1_DocErr.f k p q = some (docE p) := docErr_eq p q 300 (by decide) (small_kids hp) k (by
    unfold rounds
    have : (2 * 300 + 3) * p.length ≤ 603 * 201 := Nat.mul_le_mul_left 603 hl
    omega)
  unfold clerestoryref1_Edited.f
  rw [hE, Option.bind_some, if_neg (by decide), copy_eq ns q (by omega) (fun i => rd_all (P := small 1000) (small_z 1000) hs i) k (by omega), Option.bind_some, if_pos h1]
  show (q1t k ns e0 e1 e2 e3 e4 e5 e6 e7 l8 e9).bind _ = _
  rw [hN, Option.bind_some]
  show (clerestoryref1_DocErr.f k p q).bind _ = _
  rw [hD, Option.bind_some]
  by_cases c : docE p = 0
  · have := hd.1 ((docE_iff p).1 c)
    rw [if_neg (by omega), if_neg (by omega)]
  · have hr2 : r = 2 := by
      rcases hr with e | e
      · exact absurd ((docE_iff p).2 (hd.2 e)) c
      · exact e
    rw [if_pos c, if_pos (by omega), hr2]
theorem edited_err {ns : List S43} (q : Bool) (e0 e1 e2 e3 : Int) (e4 e5 : ByteArray) (e6 : Int) (e7 : ByteArray) (l8 : List S122) (e9 : ByteArray) (e10 : Int) (l11 : List Int) (k : Nat) {r : Int} (hE : clerestoryref1_EditErr.f k ns q e0 e1 e2 e3 e4 e5 e6 e7 l8 e9 e10 l11 = some r) (hr : r ≠ 0) (p : List S43) (m : Int) :
    clerestoryref1_Edited.f k ns q e0 e1 e2 e3 e4 e5 e6 e7 l8 e9 e10 l11 = some (if r ≠ 0 then ([], false, 0, r) else (p, q, m, 0)) := by
  unfold clerestoryref1_Edited.f
  rw [hE, Option.bind_some, if_pos hr, if_pos hr]
theorem err_node {ns : List S43} (h : DocOk ns) (q : Bool) (e0 e1 e2 e3 : Int) (e4 e5 : ByteArray) (e6 : Int) (e7 : ByteArray) (l8 : List S122) (e9 : ByteArray) (e10 : Int) (l11 : List Int) (k : Nat) (hk : 200000 < k) (h0 : 1 ≤ e0 ∧ e0 ≤ 6) (h4 : e0 ≠ 4) :
    clerestoryref1_EditErr.f k ns q e0 e1 e2 e3 e4 e5 e6 e7 l8 e9 e10 l11 = if (0 ≤ e1 ∧ e1 < ns.length) ∧ (e0 = 5 → 0 ≤ e2 ∧ e2 < ns.length) then edSw k ns q e0 e1 e2 e3 e4 (hasA (q00 ns e1).f2 e4) else some 5 := by
  have hm := h.many
  have hw : wrap64 ((ns.length : Int) - 1) = (ns.length : Int) - 1 := by unfold wrap64; omega
  unfold clerestoryref1_EditErr.f
  rw [btw, Option.bind_some, if_pos (decide_eq_true h0), if_neg h4, hw, btw, Option.bind_some]
  by_cases c1 : 0 ≤ e1 ∧ e1 < ns.length
  · rw [if_pos (decide_eq_true (by omega))]
    have hA := (rd_all (P := small 200) (small_z 200) h.small e1).1
    obtain ⟨v, hv⟩ := attrOf_has (q00 ns e1).f2 e4 (by omega) k (by omega)
    by_cases c5 : e0 = 5
    · rw [if_pos c5, btw, Option.bind_some]
      by_cases c2 : 0 ≤ e2 ∧ e2 < ns.length
      · rw [if_pos (decide_eq_true (by omega)), if_pos c1, hv, Option.bind_some, if_pos ⟨c1, fun _ => c2⟩]
      · rw [if_neg (by simp; omega), if_neg (fun hh => c2 (hh.2 c5))]
    · rw [if_neg c5, Option.bind_some, if_pos rfl, if_pos c1, hv, Option.bind_some, if_pos ⟨c1, fun e => absurd e c5⟩]
  · rw [if_neg (by simp; omega), if_neg (fun hh => c1 hh.1)]
end Go.Proofs.YthjnallbbhnndaaDoor.Dm
namespace Go.Proofs.YthjnallbbhnndaaDoor.Dm
open Go Go.RowKit Go.Proofs.YthjnallbbhnndaaDoor.XDe Go.Proofs.YthjnallbbhnndaaDoorW.PrintWords Go.Proofs.YthjnallbbhnndaaDoorW.PrintLast
set_option maxRecDepth 10000
def Both (k : Nat) (ns : List S43) (q : Bool) (e0 e1 e2 e3 : Int) (e4 e5 : ByteArray) (e6 : Int) (e7 : ByteArray) (l8 : List S122) (e9 : ByteArray) (e10 : Int) (l11 : List Int) : Prop :=
  ∃ (a : List S43) (b r : Int), q1i k ns q 0 e0 e1 e2 e3 e4 e5 e6 e7 l8 e9 e10 l11 = some (a, b, r) ∧
    (r ≠ 0 ∧ clerestoryref1_Edited.f k ns q e0 e1 e2 e3 e4 e5 e6 e7 l8 e9 e10 l11 = some ([], false, 0, r) ∨ r = 0 ∧ clerestoryref1_Edited.f k ns q e0 e1 e2 e3 e4 e5 e6 e7 l8 e9 e10 l11 = some (a, q, b, 0) ∧ DocOk a ∧ (∀ y ∈ a, small 300 y))
section
variable {ns : List S43} (h : DocOk ns) (q : Bool) (e0 e1 e2 e3 : Int) (e4 e5 : ByteArray) (e6 : Int) (e7 : ByteArray) (l8 : List S122) (e9 : ByteArray) (e10 : Int) (l11 : List Int) (k : Nat) (hk : 200000 < k)
theorem q18 {a : List S43} {b r : Int} (hp : q1i k ns q 0 e0 e1 e2 e3 e4 e5 e6 e7 l8 e9 e10 l11 = some (a, b, r)) (hr : r ≠ 0) (hE : clerestoryref1_EditErr.f k ns q e0 e1 e2 e3 e4 e5 e6 e7 l8 e9 e10 l11 = some r) : Both k ns q e0 e1 e2 e3 e4 e5 e6 e7 l8 e9 e10 l11 := by
  have := edited_err q e0 e1 e2 e3 e4 e5 e6 e7 l8 e9 e10 l11 k hE hr a b
  rw [if_pos hr] at this
  exact ⟨a, b, r, hp, .inl ⟨hr, this⟩⟩
include h hk
theorem both_made {a p : List S43} {b m r : Int} (hp : q1i k ns q 0 e0 e1 e2 e3 e4 e5 e6 e7 l8 e9 e10 l11 = some (a, b, r)) (hE : clerestoryref1_EditErr.f k ns q e0 e1 e2 e3 e4 e5 e6 e7 l8 e9 e10 l11 = some 0) (hN : q1t k ns e0 e1 e2 e3 e4 e5 e6 e7 l8 e9 = some (p, m))
    (hs : ∀ y ∈ p, small 300 y) (hl : p.length ≤ 201) (hr : r = 0 ∧ a = p ∧ b = m ∨ r = 2) (hd : DocOk p ↔ r = 0) : Both k ns q e0 e1 e2 e3 e4 e5 e6 e7 l8 e9 e10 l11 := by
  have := edited_made h q e0 e1 e2 e3 e4 e5 e6 e7 l8 e9 e10 l11 k hk hE hN hs hl (r := r) (by omega) hd
  refine ⟨a, b, r, hp, ?_⟩
  rcases hr with ⟨e, ea, eb⟩ | e
  · subst ea eb
    rw [if_neg (by omega)] at this
    exact .inr ⟨e, this, hd.2 e, hs⟩
  · rw [if_pos (by omega)] at this
    exact .inl ⟨by omega, this⟩
theorem q21 {x : S43} (h0 : 0 ≤ e1) (h1 : e1 < ns.length) (hx0 : x.f0 = kindN ns e1) (hx4 : x.f4 = par ns e1) (hx5 : x.f5 = kidL ns e1) (hs : x.f2.length ≤ 300) {a : List S43} {b r : Int} (hp : q1i k ns q 0 e0 e1 e2 e3 e4 e5 e6 e7 l8 e9 e10 l11 = some (a, b, r)) (hE : clerestoryref1_EditErr.f k ns q e0 e1 e2 e3 e4 e5 e6 e7 l8 e9 e10 l11 = some 0)
    (hN : q1t k ns e0 e1 e2 e3 e4 e5 e6 e7 l8 e9 = some (ns.set e1.toNat x, 0)) (hr : r = 0 ∧ a = ns.set e1.toNat x ∧ b = 0 ∨ r = 2) (hd : q1w x = 0 ↔ r = 0) : Both k ns q e0 e1 e2 e3 e4 e5 e6 e7 l8 e9 e10 l11 := by
  have hm := h.many
  refine both_made h q e0 e1 e2 e3 e4 e5 e6 e7 l8 e9 e10 l11 k hk hp hE hN (small_set (small_up (M' := 300) (by omega) h.small) _ ⟨hs, ?_⟩) (by rw [List.length_set]; omega) hr ((h.write h0 h1 hx0 hx4 hx5).trans hd)
  rw [hx5]
  have := kid_len h.tree h0 h1
  omega
end
theorem set_snoc {α : Type} (l : List α) (x y : α) : (l ++ [x]).set l.length y = l ++ [y] := by
  induction l with
  | nil => rfl
  | cons a t ih =>
    show a :: (t ++ [x]).set t.length y = a :: (t ++ [y])
    rw [ih]
theorem edVal_more (ns : List S43) (n : Int) (h0 : 0 ≤ n) (h1 : n < ns.length) (nm u : ByteArray) : edVal (ns.set n.toNat { q00 ns n with f2 := (q00 ns n).f2 ++ [⟨nm, .empty⟩] }) n (q00 ns n).f2.length u = ns.set n.toNat { q00 ns n with f2 := (q00 ns n).f2 ++ [⟨nm, u⟩] } := by
  have e := rd_setN ns n { q00 ns n with f2 := (q00 ns n).f2 ++ [⟨nm, .empty⟩] } n h0 h1 h0
  rw [if_pos rfl] at e
  unfold edVal
  rw [e, List.set_set]
  refine congrArg (ns.set n.toNat) ?_
  have e2 : ∀ l : List S122, (l ++ [(⟨nm, .empty⟩ : S122)]).set l.length { (l ++ [(⟨nm, .empty⟩ : S122)]).getD l.length z122 with f1 := u } = l ++ [⟨nm, u⟩] := fun l => by
    rw [set_snoc]
    simp [List.getD]
  exact congrArg (fun l => ({ q00 ns n with f2 := l } : S43)) (e2 _)
theorem both_attr {ns : List S43} (h : DocOk ns) (q : Bool) (e1 e2 e3 : Int) (e4 e5 : ByteArray) (e6 : Int) (e7 : ByteArray) (l8 : List S122) (e9 : ByteArray) (e10 : Int) (l11 : List Int) (k : Nat) (hk : 200000 < k) (h4 : e4.size ≤ 140737488355328) : Both k ns q 1 e1 e2 e3 e4 e5 e6 e7 l8 e9 e10 l11 := by
  have hE := err_node h q 1 e1 e2 e3 e4 e5 e6 e7 l8 e9 e10 l11 k hk (by decide) (by decide)
  have hP : q1i k ns q 0 1 e1 e2 e3 e4 e5 e6 e7 l8 e9 e10 l11 = (edAttr ns e1 e4 e5).bind fun p => some (p.1, 0, p.2) := by unfold q1i; rw [if_pos rfl]
  by_cases c1 : 0 ≤ e1 ∧ e1 < ns.length
  · rw [if_pos ⟨c1, fun e => absurd e (by decide)⟩] at hE
    unfold edSw at hE
    rw [if_pos rfl] at hE
    have hx := h.node e1 c1.1 c1.2
    have hx' := (q1v _).1 hx
    have hel : q23 ns e1 = if (q00 ns e1).f0 = 2 then 0 else 7 := by unfold q23; rw [if_pos c1]
    by_cases ck : (q00 ns e1).f0 = 2
    · rw [if_pos ck] at hel hE
      rw [refname_eq e4 false k (by omega), Option.bind_some] at hE
      have hn := hx'.2.2.2.2.1
      have hok := hx'.2.2.2.2.2.1
      have hA : edAttr ns e1 e4 e5 = if nameB e4 false = false then some (ns, 3) else if (400 : Int) < (e5.size : Int) then some (ns, 2) else if Cl.idxOf (fun x => x.f0.toList == e4.toList) (q00 ns e1).f2 < 0 then (if (q00 ns e1).f2.length = 12 then some (ns, 2) else if (q00 ns e1).f2.length ≤ 1000000 then some (edVal (ns.set e1.toNat { q00 ns e1 with f2 := (q00 ns e1).f2 ++ [⟨e4, .empty⟩] }) e1 (q00 ns e1).f2.length e5, 0) else none) else if Cl.idxOf (fun x => x.f0.toList == e4.toList) (q00 ns e1).f2 < ((q00 ns e1).f2.length : Int) then some (edVal ns e1 (Cl.idxOf (fun x => x.f0.toList == e4.toList) (q00 ns e1).f2).toNat e5, 0) else none := by
        unfold edAttr dom_find.f
        rw [if_neg (by rw [hel]; simp), if_pos (by omega), Option.bind_some, attrName_eq e4 h4, Option.bind_some]
      rw [hA] at hP
      cases hb : nameB e4 false with
      | false =>
        rw [hb, if_pos rfl, Option.bind_some] at hP
        rw [hb, if_neg (by decide)] at hE
        exact q18 q 1 e1 e2 e3 e4 e5 e6 e7 l8 e9 e10 l11 k hP (by simp) hE
      | true =>
        rw [hb, if_neg (by decide)] at hP
        rw [hb, if_pos rfl] at hE
        have hN : q1t k ns 1 e1 e2 e3 e4 e5 e6 e7 l8 e9 = (if hasA (q00 ns e1).f2 e4 = true then some (ns.set e1.toNat { q00 ns e1 with f2 := setA e4 e5 (q00 ns e1).f2 }) else some (ns.set e1.toNat { q00 ns e1 with f2 := setA e4 e5 (q00 ns e1).f2 ++ [⟨e4, e5⟩] })).bind fun p => some (p, 0) := by
          unfold q1t edMid
          rw [if_neg (by decide), if_pos c1, edl0_all e4 e5 1 _ (by omega) k (by omega), Option.bind_some, if_pos rfl]
          simp only [if_pos, decide_true, Bool.true_and]
          congr 1
          by_cases hh : hasA (q00 ns e1).f2 e4 = true
          · rw [if_pos hh, if_pos hh]
          · rw [if_neg hh, if_neg hh, if_pos (by unfold setA; rw [List.length_map]; omega)]
        cases hh : hasA (q00 ns e1).f2 e4 with
        | true =>
          obtain ⟨j, hj, ej, hidx, ne⟩ := findA (q00 ns e1).f2 e4 hok.2 hh
          rw [hh, if_pos rfl, Option.bind_some] at hN
          rw [hidx, if_neg (show ¬ (j : Int) < 0 by omega), if_pos (show (j : Int) < ((q00 ns e1).f2.length : Int) by omega)] at hP
          have hset := setA_at e4 e5 _ j hj ej ne
          have hnode : q1w { q00 ns e1 with f2 := setA e4 e5 (q00 ns e1).f2 } = 0 ↔ e5.size ≤ 400 := by
            rw [node_attrs hx ck, attrs_set hok e4 e5 hh]
            exact ⟨fun h => h.2, fun h => ⟨by unfold setA; rw [List.length_map]; exact hn, h⟩⟩
          by_cases c4 : (400 : Int) < (e5.size : Int)
          · rw [if_pos c4, Option.bind_some] at hP
            exact q21 h q 1 e1 e2 e3 e4 e5 e6 e7 l8 e9 e10 l11 k hk (x := { q00 ns e1 with f2 := setA e4 e5 (q00 ns e1).f2 }) c1.1 c1.2 rfl rfl rfl (by unfold setA; rw [List.length_map]; omega) hP hE hN (.inr rfl) (hnode.trans ⟨fun e => by omega, fun e => by omega⟩)
          · rw [if_neg c4, Option.bind_some] at hP
            refine q21 h q 1 e1 e2 e3 e4 e5 e6 e7 l8 e9 e10 l11 k hk (x := { q00 ns e1 with f2 := setA e4 e5 (q00 ns e1).f2 }) c1.1 c1.2 rfl rfl rfl (by unfold setA; rw [List.length_map]; omega) hP hE hN (.inl ⟨rfl, ?_, rfl⟩) (hnode.trans ⟨fun _ => rfl, fun _ => by omega⟩)
            rw [hset]
            rfl
        | false =>
          rw [hh, if_neg (by decide), Option.bind_some, setA_none _ _ _ hh] at hN
          rw [missA _ _ hh, if_pos (show (-1 : Int) < 0 by decide)] at hP
          have hnode : q1w { q00 ns e1 with f2 := (q00 ns e1).f2 ++ [⟨e4, e5⟩] } = 0 ↔ ((q00 ns e1).f2.length + 1 ≤ 12 ∧ e5.size ≤ 400) := by
            rw [node_attrs hx ck, attrs_more hok e4 e5 hh, List.length_append]
            exact ⟨fun h => ⟨h.1, h.2.2⟩, fun h => ⟨h.1, hb, h.2⟩⟩
          have hle : ((q00 ns e1).f2 ++ [(⟨e4, e5⟩ : S122)]).length ≤ 300 := by rw [List.length_append]; simp only [List.length_cons, List.length_nil]; omega
          by_cases c4 : (400 : Int) < (e5.size : Int)
          · rw [if_pos c4, Option.bind_some] at hP
            exact q21 h q 1 e1 e2 e3 e4 e5 e6 e7 l8 e9 e10 l11 k hk (x := { q00 ns e1 with f2 := (q00 ns e1).f2 ++ [⟨e4, e5⟩] }) c1.1 c1.2 rfl rfl rfl hle hP hE hN (.inr rfl) (hnode.trans ⟨fun e => by omega, fun e => by omega⟩)
          · rw [if_neg c4] at hP
            by_cases c12 : (q00 ns e1).f2.length = 12
            · rw [if_pos c12, Option.bind_some] at hP
              exact q21 h q 1 e1 e2 e3 e4 e5 e6 e7 l8 e9 e10 l11 k hk (x := { q00 ns e1 with f2 := (q00 ns e1).f2 ++ [⟨e4, e5⟩] }) c1.1 c1.2 rfl rfl rfl hle hP hE hN (.inr rfl) (hnode.trans ⟨fun e => by omega, fun e => by omega⟩)
            · rw [if_neg c12, if_pos (by omega), Option.bind_some] at hP
              refine q21 h q 1 e1 e2 e3 e4 e5 e6 e7 l8 e9 e10 l11 k hk (x := { q00 ns e1 with f2 := (q00 ns e1).f2 ++ [⟨e4, e5⟩] }) c1.1 c1.2 rfl rfl rfl hle hP hE hN (.inl ⟨rfl, ?_, rfl⟩) (hnode.trans ⟨fun _ => rfl, fun _ => by omega⟩)
              exact edVal_more ns e1 c1.1 c1.2 e4 e5
    · rw [if_neg ck] at hel hE
      have hA : edAttr ns e1 e4 e5 = some (ns, 7) := by unfold edAttr; rw [hel, if_pos (by decide)]
      rw [hA, Option.bind_some] at hP
      exact q18 q 1 e1 e2 e3 e4 e5 e6 e7 l8 e9 e10 l11 k hP (by simp) hE
  · rw [if_neg (fun hh => c1 hh.1)] at hE
    have hA : edAttr ns e1 e4 e5 = some (ns, 5) := by unfold edAttr q23; rw [if_neg c1, if_pos (by decide)]
    rw [hA, Option.bind_some] at hP
    exact q18 q 1 e1 e2 e3 e4 e5 e6 e7 l8 e9 e10 l11 k hP (by simp) hE
theorem both_drop {ns : List S43} (h : DocOk ns) (q : Bool) (e1 e2 e3 : Int) (e4 e5 : ByteArray) (e6 : Int) (e7 : ByteArray) (l8 : List S122) (e9 : ByteArray) (e10 : Int) (l11 : List Int) (k : Nat) (hk : 200000 < k) : Both k ns q 2 e1 e2 e3 e4 e5 e6 e7 l8 e9 e10 l11 := by
  have hE := err_node h q 2 e1 e2 e3 e4 e5 e6 e7 l8 e9 e10 l11 k hk (by decide) (by decide)
  have hP : q1i k ns q 0 2 e1 e2 e3 e4 e5 e6 e7 l8 e9 e10 l11 = (edDrop ns e1 e4).bind fun p => some (p.1, 0, p.2) := by unfold q1i; rw [if_neg (by decide), if_pos rfl]
  by_cases c1 : 0 ≤ e1 ∧ e1 < ns.length
  · rw [if_pos ⟨c1, fun e => absurd e (by decide)⟩] at hE
    unfold edSw at hE
    rw [if_neg (by decide), if_pos rfl] at hE
    have hx := h.node e1 c1.1 c1.2
    have hx' := (q1v _).1 hx
    have hel : q23 ns e1 = if (q00 ns e1).f0 = 2 then 0 else 7 := by unfold q23; rw [if_pos c1]
    by_cases ck : (q00 ns e1).f0 = 2
    · rw [if_pos ck] at hel hE
      have hn := hx'.2.2.2.2.1
      have hok := hx'.2.2.2.2.2.1
      have hA : edDrop ns e1 e4 = if Cl.idxOf (fun x => x.f0.toList == e4.toList) (q00 ns e1).f2 < 0 then some (ns, 5) else if Cl.idxOf (fun x => x.f0.toList == e4.toList) (q00 ns e1).f2 < ((q00 ns e1).f2.length : Int) then some (ns.set e1.toNat { q00 ns e1 with f2 := (q00 ns e1).f2.eraseIdx (Cl.idxOf (fun x => x.f0.toList == e4.toList) (q00 ns e1).f2).toNat }, 0) else none := by
        unfold edDrop dom_find.f
        rw [if_neg (by rw [hel]; simp), if_pos (by omega), Option.bind_some]
      rw [hA] at hP
      cases hh : hasA (q00 ns e1).f2 e4 with
      | false =>
        rw [hh, if_neg (by decide)] at hE
        rw [missA _ _ hh, if_pos (show (-1 : Int) < 0 by decide), Option.bind_some] at hP
        exact q18 q 2 e1 e2 e3 e4 e5 e6 e7 l8 e9 e10 l11 k hP (by simp) hE
      | true =>
        rw [hh, if_pos rfl] at hE
        obtain ⟨j, hj, ej, hidx, ne⟩ := findA (q00 ns e1).f2 e4 hok.2 hh
        rw [hidx, if_neg (show ¬ (j : Int) < 0 by omega), if_pos (show (j : Int) < ((q00 ns e1).f2.length : Int) by omega), Option.bind_some] at hP
        have hdr := dropN_at e4 _ j hj ej ne
        have hN : q1t k ns 2 e1 e2 e3 e4 e5 e6 e7 l8 e9 = some (ns.set e1.toNat { q00 ns e1 with f2 := dropN e4 (q00 ns e1).f2 }, 0) := by
          unfold q1t edMid
          rw [if_neg (by decide), if_pos c1, edl0_all e4 e5 2 _ (by omega) k (by omega), Option.bind_some, if_neg (by decide), if_pos rfl, Option.bind_some]
          rfl
        have hlen : (dropN e4 (q00 ns e1).f2).length ≤ 12 := by unfold dropN; have := List.length_filter_le (fun a : S122 => !(a.f0.toList == e4.toList)) (q00 ns e1).f2; omega
        refine q21 h q 2 e1 e2 e3 e4 e5 e6 e7 l8 e9 e10 l11 k hk (x := { q00 ns e1 with f2 := dropN e4 (q00 ns e1).f2 }) c1.1 c1.2 rfl rfl rfl (by show (dropN e4 (q00 ns e1).f2).length ≤ 300; omega) hP hE hN (.inl ⟨rfl, by rw [hdr]; rfl, rfl⟩) ?_
        rw [node_attrs hx ck]
        exact ⟨fun _ => rfl, fun _ => ⟨hlen, attrs_less hok e4⟩⟩
    · rw [if_neg ck] at hel hE
      have hA : edDrop ns e1 e4 = some (ns, 7) := by unfold edDrop; rw [hel, if_pos (by decide)]
      rw [hA, Option.bind_some] at hP
      exact q18 q 2 e1 e2 e3 e4 e5 e6 e7 l8 e9 e10 l11 k hP (by simp) hE
  · rw [if_neg (fun hh => c1 hh.1)] at hE
    have hA : edDrop ns e1 e4 = some (ns, 5) := by unfold edDrop q23; rw [if_neg c1, if_pos (by decide)]
    rw [hA, Option.bind_some] at hP
    exact q18 q 2 e1 e2 e3 e4 e5 e6 e7 l8 e9 e10 l11 k hP (by simp) hE
theorem both_text {ns : List S43} (h : DocOk ns) (q : Bool) (e1 e2 e3 : Int) (e4 e5 : ByteArray) (e6 : Int) (e7 : ByteArray) (l8 : List S122) (e9 : ByteArray) (e10 : Int) (l11 : List Int) (k : Nat) (hk : 200000 < k) : Both k ns q 3 e1 e2 e3 e4 e5 e6 e7 l8 e9 e10 l11 := by
  have hE := err_node h q 3 e1 e2 e3 e4 e5 e6 e7 l8 e9 e10 l11 k hk (by decide) (by decide)
  have hP : q1i k ns q 0 3 e1 e2 e3 e4 e5 e6 e7 l8 e9 e10 l11 = some ((edText ns e1 e5).1, 0, (edText ns e1 e5).2) := by unfold q1i; rw [if_neg (by decide), if_neg (by decide), if_pos rfl]
  by_cases c1 : 0 ≤ e1 ∧ e1 < ns.length
  · rw [if_pos ⟨c1, fun e => absurd e (by decide)⟩] at hE
    unfold edSw at hE
    rw [if_neg (by decide), if_neg (by decide), if_pos rfl] at hE
    have hx := h.node e1 c1.1 c1.2
    have hs := (rd_all (P := small 200) (small_z 200) h.small e1).1
    by_cases ck : (q00 ns e1).f0 = 3 ∨ (q00 ns e1).f0 = 4
    · have hE0 : clerestoryref1_EditErr.f k ns q 3 e1 e2 e3 e4 e5 e6 e7 l8 e9 e10 l11 = some 0 := by
        rw [hE]
        by_cases c3 : (q00 ns e1).f0 = 3
        · rw [if_pos c3]
        · rw [if_neg c3, if_pos (by omega)]
      have hN : q1t k ns 3 e1 e2 e3 e4 e5 e6 e7 l8 e9 = some (ns.set e1.toNat { q00 ns e1 with f3 := e5 }, 0) := by
        unfold q1t edMid
        rw [if_neg (by decide), if_pos c1, edl0_all e4 e5 3 _ (by omega) k (by omega), Option.bind_some, if_neg (by decide), if_neg (by decide), if_pos rfl, Option.bind_some]
      have hnode := node_text hx ck e5
      have hA : edText ns e1 e5 = if 400 < e5.size then (ns, 2) else (ns.set e1.toNat { q00 ns e1 with f3 := e5 }, 0) := by unfold edText; rw [if_pos c1, if_neg (by omega)]
      rw [hA] at hP
      by_cases c4 : 400 < e5.size
      · rw [if_pos c4] at hP
        exact q21 h q 3 e1 e2 e3 e4 e5 e6 e7 l8 e9 e10 l11 k hk (x := { q00 ns e1 with f3 := e5 }) c1.1 c1.2 rfl rfl rfl (by show (q00 ns e1).f2.length ≤ 300; omega) hP hE0 hN (.inr rfl) (hnode.trans ⟨fun e => by omega, fun e => by cases e⟩)
      · rw [if_neg c4] at hP
        exact q21 h q 3 e1 e2 e3 e4 e5 e6 e7 l8 e9 e10 l11 k hk (x := { q00 ns e1 with f3 := e5 }) c1.1 c1.2 rfl rfl rfl (by show (q00 ns e1).f2.length ≤ 300; omega) hP hE0 hN (.inl ⟨rfl, rfl, rfl⟩) (hnode.trans ⟨fun _ => rfl, fun _ => by omega⟩)
    · rw [if_neg (by omega), if_neg (by omega)] at hE
      have hA : edText ns e1 e5 = (ns, 7) := by unfold edText; rw [if_pos c1, if_pos (by omega)]
      rw [hA] at hP
      exact q18 q 3 e1 e2 e3 e4 e5 e6 e7 l8 e9 e10 l11 k hP (by simp) hE
  · rw [if_neg (fun hh => c1 hh.1)] at hE
    have hA : edText ns e1 e5 = (ns, 5) := by unfold edText; rw [if_neg c1]
    rw [hA] at hP
    exact q18 q 3 e1 e2 e3 e4 e5 e6 e7 l8 e9 e10 l11 k hP (by simp) hE
theorem both_make {ns : List S43} (h : DocOk ns) (q : Bool) (e1 e2 e3 : Int) (e4 e5 : ByteArray) (e6 : Int) (e7 : ByteArray) (l8 : List S122) (e9 : ByteArray) (e10 : Int) (l11 : List Int) (k : Nat) (hk : 200000 < k) (h7 : e7.size ≤ 140737488355328) (h8 : smallA l8) (hl8 : l8.length * 32 ≤ 140737488355328) : Both k ns q 4 e1 e2 e3 e4 e5 e6 e7 l8 e9 e10 l11 := by
  have hm := h.many
  have hE : clerestoryref1_EditErr.f k ns q 4 e1 e2 e3 e4 e5 e6 e7 l8 e9 e10 l11 = if 0 < l11.length then some 3 else if e6 = 1 then some 7 else clerestoryref1_NodeErr.f k e6 e7 l8 e9 e10 l11 := by
    unfold clerestoryref1_EditErr.f
    rw [btw, Option.bind_some, if_pos (by decide), if_pos rfl]
  have hP : q1i k ns q 0 4 e1 e2 e3 e4 e5 e6 e7 l8 e9 e10 l11 = edMake k ns 0 e6 e7 l8 e9 e10 l11 := by unfold q1i; rw [if_neg (by decide), if_neg (by decide), if_neg (by decide), if_pos rfl]
  unfold edMake at hP
  by_cases c1 : 0 < l11.length
  · rw [if_pos c1] at hE hP
    exact q18 q 4 e1 e2 e3 e4 e5 e6 e7 l8 e9 e10 l11 k hP (by simp) hE
  · rw [if_neg c1] at hE hP
    by_cases c2 : e6 = 1
    · rw [if_pos c2] at hE hP
      exact q18 q 4 e1 e2 e3 e4 e5 e6 e7 l8 e9 e10 l11 k hP (by simp) hE
    · rw [if_neg c2] at hE hP
      have hne := nodeErr_eq (⟨e6, e7, l8, e9, e10, l11⟩ : S43) k (by omega)
      have hon := one_eq (⟨e6, e7, l8, e9, e10, l11⟩ : S43) h8 h7 k (by omega)
      have hne : clerestoryref1_NodeErr.f k e6 e7 l8 e9 e10 l11 = some (q1w ⟨e6, e7, l8, e9, e10, l11⟩) := hne
      have hon : dom_one.f k e6 e7 l8 e9 e10 l11 = some (q1w ⟨e6, e7, l8, e9, e10, l11⟩) := hon
      rw [hne] at hE
      rw [hon, Option.bind_some] at hP
      by_cases c3 : q1w ⟨e6, e7, l8, e9, e10, l11⟩ = 0
      · rw [c3] at hE
        rw [if_neg (by rw [c3]; decide)] at hP
        obtain rfl : l11 = [] := List.length_eq_zero_iff.1 (by omega)
        have hx : q1w ⟨e6, e7, l8, e9, -1, []⟩ = 0 := c3
        have h12 : l8.length ≤ 12 := ((q1v _).1 hx).2.2.2.2.1
        have hN : q1t k ns 4 e1 e2 e3 e4 e5 e6 e7 l8 e9 = some (ns ++ [⟨e6, e7, l8, e9, -1, []⟩], (ns.length : Int)) := by
          unfold q1t
          rw [if_pos rfl, if_pos ⟨by omega, by omega⟩]
        have hd := h.more (x := ⟨e6, e7, l8, e9, -1, []⟩) hx c2 rfl rfl
        have hsm : ∀ y ∈ ns ++ [(⟨e6, e7, l8, e9, -1, []⟩ : S43)], small 300 y := small_more (small_up (M' := 300) (by omega) h.small) ⟨by show l8.length ≤ 300; omega, Nat.zero_le _⟩
        have hlen : (ns ++ [(⟨e6, e7, l8, e9, -1, []⟩ : S43)]).length ≤ 201 := by rw [List.length_append]; simp only [List.length_cons, List.length_nil]; omega
        by_cases c4 : ns.length = 200
        · rw [if_pos c4] at hP
          exact both_made h q 4 e1 e2 e3 e4 e5 e6 e7 l8 e9 e10 [] k hk hP hE hN hsm hlen (.inr rfl) (hd.trans ⟨fun e => by omega, fun e => by cases e⟩)
        · rw [if_neg c4, if_pos ⟨by omega, hl8⟩] at hP
          exact both_made h q 4 e1 e2 e3 e4 e5 e6 e7 l8 e9 e10 [] k hk hP hE hN hsm hlen (.inl ⟨rfl, rfl, rfl⟩) (hd.trans ⟨fun _ => rfl, fun _ => by omega⟩)
      · rw [if_pos c3] at hP
        exact q18 q 4 e1 e2 e3 e4 e5 e6 e7 l8 e9 e10 l11 k hP c3 hE
end Go.Proofs.YthjnallbbhnndaaDoor.Dm
namespace Go.Proofs.YthjnallbbhnndaaDoor.Dm
open Go Go.RowKit Go.Proofs.YthjnallbbhnndaaDoor.XDe Go.Proofs.YthjnallbbhnndaaDoorW.PrintWords Go.Proofs.YthjnallbbhnndaaDoorW.PrintLast
set_option maxRecDepth 10000
theorem without_eq (l : List Int) (i : Int) (h0 : 0 ≤ i) (h1 : i < l.length) (hl : l.length ≤ 1000000) : clerestoryref1_without.f l i = some (l.eraseIdx i.toNat) := by
  have hw : wrap64 (i + 1) = i + 1 := by unfold wrap64; omega
  unfold clerestoryref1_without.f
  rw [Option.bind_some, if_pos h0, if_pos (by omega), if_pos (by rw [List.length_take]; simp only [List.length_nil]; omega), Option.bind_some, hw, if_pos (by omega), if_pos (by omega), if_pos (by rw [List.nil_append, List.length_take, List.length_drop]; omega), erase_eq, List.nil_append, show (i + 1).toNat = i.toNat + 1 by omega]
theorem DocOk.kinds {ns : List S43} (h : DocOk ns) {i : Int} (h0 : 0 ≤ i) (h1 : i < ns.length) : 1 ≤ (q00 ns i).f0 ∧ (q00 ns i).f0 ≤ 5 ∧ ((q00 ns i).f0 = 1 ↔ i = 0) := by
  have := (q1v _).1 (h.node i h0 h1)
  exact ⟨this.1, this.2.1, h.kind i h0 h1⟩
theorem wrap_sum (a b : Nat) (ha : a ≤ 1000) (hb : b ≤ 1000) : wrap64 (wrap64 ((a : Int) + 1) + (b : Int)) = (a : Int) + 1 + b := by unfold wrap64; omega
theorem both_remove {ns : List S43} (h : DocOk ns) (q : Bool) (e1 e2 e3 : Int) (e4 e5 : ByteArray) (e6 : Int) (e7 : ByteArray) (l8 : List S122) (e9 : ByteArray) (e10 : Int) (l11 : List Int) (k : Nat) (hk : 200000 < k) : Both k ns q 6 e1 e2 e3 e4 e5 e6 e7 l8 e9 e10 l11 := by
  have hm := h.many
  have hE := err_node h q 6 e1 e2 e3 e4 e5 e6 e7 l8 e9 e10 l11 k hk (by decide) (by decide)
  have hP : q1i k ns q 0 6 e1 e2 e3 e4 e5 e6 e7 l8 e9 e10 l11 = (edRemove k ns e1).bind fun p => some (p.1, 0, p.2) := by unfold q1i; rw [if_neg (by decide), if_neg (by decide), if_neg (by decide), if_neg (by decide), if_neg (by decide), if_pos rfl]
  unfold edRemove at hP
  by_cases c1 : 0 ≤ e1 ∧ e1 < ns.length
  · rw [if_pos ⟨c1, fun e => absurd e (by decide)⟩] at hE
    unfold edSw at hE
    rw [if_neg (by decide), if_neg (by decide), if_neg (by decide), if_pos rfl] at hE
    rw [if_pos c1] at hP
    have hkd := h.kinds c1.1 c1.2
    by_cases c0 : e1 = 0
    · rw [if_pos c0] at hE
      rw [if_pos (hkd.2.2.2 c0), Option.bind_some] at hP
      exact q18 q 6 e1 e2 e3 e4 e5 e6 e7 l8 e9 e10 l11 k hP (by simp) hE
    · rw [if_neg c0] at hE
      rw [if_neg (fun e => c0 (hkd.2.2.1 e))] at hP
      by_cases cp : (q00 ns e1).f4 < 0
      · rw [if_pos cp] at hE
        rw [if_pos cp, Option.bind_some] at hP
        exact q18 q 6 e1 e2 e3 e4 e5 e6 e7 l8 e9 e10 l11 k hP (by simp) hE
      · rw [if_neg cp] at hE
        rw [if_neg cp] at hP
        obtain ⟨p, hp⟩ : ∃ p, par ns e1 = p := ⟨_, rfl⟩
        have hp' : (q00 ns e1).f4 = p := hp
        rw [hp'] at cp hP
        obtain ⟨p0, p1, hin⟩ : 0 ≤ p ∧ p < ns.length ∧ e1 ∈ kidL ns p := by
          rcases h.up e1 c1.1 c1.2 with e | e
          · rw [hp] at e; omega
          · rw [hp] at e; exact e
        have hne : e1 ≠ p := fun e => by
          have := deep_kid h.tree p0 p1 hin
          rw [e] at this
          omega
        have hkl := kid_len h.tree p0 p1
        have hi := idx_lt hin
        have hkp : kindN ns p = 1 ∨ kindN ns p = 2 := node_kind (h.node p p0 p1) (fun e => by unfold kidL at hin; rw [e] at hin; cases hin)
        have hkl' : (q00 ns p).f5.length ≤ 200 := hkl
        have hi' : idx (q00 ns p).f5 e1 < (q00 ns p).f5.length := hi
        have hin' : e1 ∈ (q00 ns p).f5 := hin
        have hsp : (q00 (ns.set p.toNat { q00 ns p with f5 := (q00 ns p).f5.eraseIdx (idx (q00 ns p).f5 e1) }) e1) = q00 ns e1 := by rw [rd_setN ns p _ e1 p0 p1 c1.1, if_neg hne]
        rw [if_pos p1, index_eq _ _ (by omega) k (by omega), Option.bind_some, idxI_mem hin', if_pos ⟨by omega, by omega⟩, Option.bind_some, show ((idx (q00 ns p).f5 e1 : Nat) : Int).toNat = idx (q00 ns p).f5 e1 from rfl, hsp] at hP
        have hN : q1t k ns 6 e1 e2 e3 e4 e5 e6 e7 l8 e9 = some ((ns.set p.toNat { q00 ns p with f5 := (q00 ns p).f5.eraseIdx (idx (q00 ns p).f5 e1) }).set e1.toNat { q00 ns e1 with f4 := -1 }, 0) := by
          have hA := (rd_all (P := small 200) (small_z 200) h.small e1).1
          unfold q1t edMid
          rw [if_neg (by decide), if_pos c1, edl0_all e4 e5 6 _ (by omega) k (by omega), Option.bind_some, if_neg (by decide), if_neg (by decide), if_neg (by decide), if_neg (by decide), if_pos rfl, hp', if_pos ⟨p0, p1, fun e => hne e.symm⟩, place_eq _ _ (by omega) k (by omega), Option.bind_some, idxI_mem hin', without_eq _ _ (by omega) (by omega) (by omega), Option.bind_some, Option.bind_some]
          rfl
        have mv := moved h c1.1 c1.2 p0 p1 hne hkp (-1) ((q00 ns p).f5.eraseIdx (idx (q00 ns p).f5 e1))
        have hok := h.left c1.1 c1.2 p0 hp mv
        have s3 := small_up (M' := 300) (by omega) h.small
        have hle : ((q00 ns p).f5.eraseIdx (idx (q00 ns p).f5 e1)).length ≤ 300 := Nat.le_trans (List.eraseIdx_sublist _ _).length_le (by omega)
        have a3 := fun i : Int => rd_all (P := small 300) (small_z 300) s3 i
        refine both_made h q 6 e1 e2 e3 e4 e5 e6 e7 l8 e9 e10 l11 k hk hP hE hN (small_set (x := { q00 ns e1 with f4 := -1 }) (small_set (x := { q00 ns p with f5 := (q00 ns p).f5.eraseIdx (idx (q00 ns p).f5 e1) }) s3 _ ⟨(a3 p).1, hle⟩) _ ⟨(a3 e1).1, (a3 e1).2⟩) (by rw [List.length_set, List.length_set]; omega) (.inl ⟨rfl, rfl, rfl⟩) ⟨fun _ => rfl, fun _ => hok⟩
  · rw [if_neg (fun hh => c1 hh.1)] at hE
    rw [if_neg c1, Option.bind_some] at hP
    exact q18 q 6 e1 e2 e3 e4 e5 e6 e7 l8 e9 e10 l11 k hP (by simp) hE
theorem both_insert {ns : List S43} (h : DocOk ns) (q : Bool) (e1 e2 e3 : Int) (e4 e5 : ByteArray) (e6 : Int) (e7 : ByteArray) (l8 : List S122) (e9 : ByteArray) (e10 : Int) (l11 : List Int) (k : Nat) (hk : 200000 < k) : Both k ns q 5 e1 e2 e3 e4 e5 e6 e7 l8 e9 e10 l11 := by
  have hm := h.many
  have ht := h.tree
  have hE := err_node h q 5 e1 e2 e3 e4 e5 e6 e7 l8 e9 e10 l11 k hk (by decide) (by decide)
  have hP : q1i k ns q 0 5 e1 e2 e3 e4 e5 e6 e7 l8 e9 e10 l11 = (edInsert k ns q e1 e2 e3).bind fun p => some (p.1, 0, p.2) := by unfold q1i; rw [if_neg (by decide), if_neg (by decide), if_neg (by decide), if_neg (by decide), if_pos rfl]
  unfold edInsert at hP
  by_cases c1 : 0 ≤ e1 ∧ e1 < ns.length
  rotate_left
  · rw [if_neg (fun hh => c1 hh.1)] at hE
    rw [if_neg c1, Option.bind_some] at hP
    exact q18 q 5 e1 e2 e3 e4 e5 e6 e7 l8 e9 e10 l11 k hP (by simp) hE
  by_cases c2 : 0 ≤ e2 ∧ e2 < ns.length
  rotate_left
  · rw [if_neg (fun hh => c2 (hh.2 rfl))] at hE
    rw [if_pos c1, if_neg c2, Option.bind_some] at hP
    exact q18 q 5 e1 e2 e3 e4 e5 e6 e7 l8 e9 e10 l11 k hP (by simp) hE
  rw [if_pos ⟨c1, fun _ => c2⟩] at hE
  unfold edSw at hE
  rw [if_neg (by decide), if_neg (by decide), if_neg (by decide), if_neg (by decide), if_pos c2] at hE
  rw [if_pos c1, if_pos c2] at hP
  have k1 := h.kinds c1.1 c1.2
  have k2 := h.kinds c2.1 c2.2
  have hpb : dom_parent.f (q00 ns e1).f0 = some (decide ((q00 ns e1).f0 = 1 ∨ (q00 ns e1).f0 = 2)) := by
    unfold dom_parent.f
    by_cases c : (q00 ns e1).f0 = 1
    · rw [if_pos c, decide_eq_true (.inl c)]
    · rw [if_neg c]
      by_cases d : (q00 ns e1).f0 = 2
      · rw [d]; rfl
      · rw [beq_eq_false_iff_ne.2 d, decide_eq_false (fun hh => hh.elim c d)]
  rw [hpb, Option.bind_some] at hP
  have hbad : edKind (decide ((q00 ns e1).f0 = 1 ∨ (q00 ns e1).f0 = 2)) (q00 ns e1) (q00 ns e2) = true ↔ ((q00 ns e1).f0 > 2 ∨ e2 = 0 ∨ (e1 = 0 ∧ (q00 ns e2).f0 = 3)) := by
    unfold edKind
    simp only [Bool.or_eq_true, Bool.and_eq_true, decide_eq_true_eq, Bool.not_eq_true', decide_eq_false_iff_not]
    rw [k2.2.2, k1.2.2]
    have := k1.1
    constructor
    · rintro ((a | a) | a)
      · left; omega
      · exact .inr (.inl a)
      · exact .inr (.inr a)
    · rintro (a | a | a)
      · left; left; intro hh; rcases hh with b | b <;> omega
      · exact .inl (.inr a)
      · exact .inr a
  by_cases cb : (q00 ns e1).f0 > 2 ∨ e2 = 0 ∨ (e1 = 0 ∧ (q00 ns e2).f0 = 3)
  · rw [if_pos (hbad.2 cb), Option.bind_some] at hP
    have hE7 : clerestoryref1_EditErr.f k ns q 5 e1 e2 e3 e4 e5 e6 e7 l8 e9 e10 l11 = some 7 := by
      rw [hE]
      by_cases a : (q00 ns e1).f0 > 2
      · rw [if_pos a]
      · rw [if_neg a]
        by_cases b : e2 = 0
        · rw [if_pos b]
        · rw [if_neg b, if_pos (by rcases cb with c | c | c; exact absurd c a; exact absurd c b; exact c)]
    exact q18 q 5 e1 e2 e3 e4 e5 e6 e7 l8 e9 e10 l11 k hP (by simp) hE7
  rw [if_neg (fun hh => cb (hbad.1 hh))] at hP
  rw [if_neg (fun hh => cb (.inl hh)), if_neg (fun hh => cb (.inr (.inl hh))), if_neg (fun hh => cb (.inr (.inr hh)))] at hE
  by_cases cp : (q00 ns e2).f4 ≥ 0
  · rw [if_pos cp] at hE
    rw [if_pos cp, Option.bind_some] at hP
    exact q18 q 5 e1 e2 e3 e4 e5 e6 e7 l8 e9 e10 l11 k hP (by simp) hE
  rw [if_neg cp] at hE hP
  have hkl' : (q00 ns e1).f5.length ≤ 200 := kid_len ht c1.1 c1.2
  -- where it comes
  obtain ⟨i, hi, hi2, hip, hir⟩ : ∃ i : Int, i ≤ (q00 ns e1).f5.length ∧ (i < 0 → e3 ≠ -1) ∧ (if e3 = -1 then some ((q00 ns e1).f5.length : Int) else slices_Index_int_int.f k (q00 ns e1).f5 e3) = some i ∧ (if e3 = -1 then some ((q00 ns e1).f5.length : Int) else clerestoryref1_placeIn.f k (q00 ns e1).f5 e3) = some i := by
    by_cases c : e3 = -1
    · exact ⟨((q00 ns e1).f5.length : Int), Int.le_refl _, fun e => by omega, by rw [if_pos c], by rw [if_pos c]⟩
    · refine ⟨idxI (q00 ns e1).f5 e3, ?_, fun _ => c, by rw [if_neg c, index_eq _ _ (by omega) k (by omega)], by rw [if_neg c, place_eq _ _ (by omega) k (by omega)]⟩
      unfold idxI
      by_cases d : hasK (q00 ns e1).f5 e3 = true
      · rw [if_pos d]
        have := idx_lt ((mem_hasK _ _).1 d)
        omega
      · rw [if_neg d]; omega
  rw [hip, Option.bind_some] at hP
  by_cases ci : i < 0
  · rw [if_pos ci, Option.bind_some] at hP
    have hne := hi2 ci
    rw [if_neg hne] at hE hir
    rw [hir, Option.bind_some, if_pos ci] at hE
    exact q18 q 5 e1 e2 e3 e4 e5 e6 e7 l8 e9 e10 l11 k hP (by simp) hE
  rw [if_neg ci] at hP
  have hun := under_all ht q c1.1 c1.2 c2.1 k (by omega)
  have hbl := edBelow_rel ht c2.1 (q0m ns e1) e1 rfl c1.1 c1.2 k (by have := (ht.deep e1 c1.1 c1.2).1; omega)
  have hE2 : clerestoryref1_EditErr.f k ns q 5 e1 e2 e3 e4 e5 e6 e7 l8 e9 e10 l11 = some (if e2 ∈ relP ns (q0m ns e1) e1 then 8 else 0) := by
    rw [hE]
    have e : ((if e3 = -1 then some 0 else clerestoryref1_placeIn.f k (q00 ns e1).f5 e3).bind fun i => if i < 0 then some 5 else (clerestoryref1_Under.f k ns q e1 e2).bind fun u => some (if u = true then 8 else 0)) = (clerestoryref1_Under.f k ns q e1 e2).bind fun u => some (if u = true then (8 : Int) else 0) := by
      by_cases c : e3 = -1
      · rw [if_pos c, Option.bind_some, if_neg (by decide)]
      · rw [if_neg c]
        rw [if_neg c] at hir
        rw [hir, Option.bind_some, if_neg ci]
    rw [e, hun, Option.bind_some]
    congr 1
    by_cases c : e2 ∈ relP ns (q0m ns e1) e1
    · rw [if_pos (decide_eq_true c), if_pos c]
    · rw [if_neg (by simpa using c), if_neg c]
  rw [hbl, Option.bind_some] at hP
  by_cases cu : e2 ∈ relP ns (q0m ns e1) e1
  · rw [if_pos cu] at hE2
    rw [if_pos (decide_eq_true cu), Option.bind_some] at hP
    exact q18 q 5 e1 e2 e3 e4 e5 e6 e7 l8 e9 e10 l11 k hP (by simp) hE2
  rw [if_neg cu] at hE2
  rw [if_neg (by simpa using cu)] at hP
  have hne : e2 ≠ e1 := fun e => cu (by rw [e]; exact un_self)
  have hir2 : InR ns := fun j h0 h1 => by
    rcases h.up j h0 h1 with e | e
    · omega
    · exact e.2.1
  have hd1 := (ht.deep e1 c1.1 c1.2).1
  obtain ⟨H, hH100, hHe, hH⟩ := edDeep_eq ht 41 e2 (by omega) c2.1 c2.2 k (by omega)
  have hu := up_eq ns q (by omega) hir2 e1 c1.1 c1.2 k (by omega)
  have hu : dom_up.f k ns q e1 = some ((q0m ns e1 : Nat) : Int) := hu
  rw [hu, Option.bind_some, hHe, Option.bind_some, wrap_sum _ _ (by omega) (by omega)] at hP
  have hrd : q00 (ns.set e1.toNat { q00 ns e1 with f5 := (q00 ns e1).f5.take i.toNat ++ e2 :: (q00 ns e1).f5.drop i.toNat }) e2 = q00 ns e2 := by rw [rd_setN ns e1 _ e2 c1.1 c1.2 c2.1, if_neg hne]
  rw [hrd] at hP
  have hkp : kindN ns e1 = 1 ∨ kindN ns e1 = 2 := by
    have := k1.1
    have c : ¬ (q00 ns e1).f0 > 2 := fun hh => cb (.inl hh)
    show (q00 ns e1).f0 = 1 ∨ (q00 ns e1).f0 = 2
    omega
  have mv := moved h c2.1 c2.2 c1.1 c1.2 hne hkp e1 ((q00 ns e1).f5.take i.toNat ++ e2 :: (q00 ns e1).f5.drop i.toNat)
  have hput := h.put c1.1 c1.2 (by have : ¬ e2 = 0 := fun hh => cb (.inr (.inl hh)); omega) c2.2 (by show (q00 ns e2).f4 < 0; omega) cu (fun e e3' => cb (.inr (.inr ⟨e, e3'⟩))) i.toNat mv H hH
  have hN : q1t k ns 5 e1 e2 e3 e4 e5 e6 e7 l8 e9 = some ((ns.set e1.toNat { q00 ns e1 with f5 := (q00 ns e1).f5.take i.toNat ++ e2 :: (q00 ns e1).f5.drop i.toNat }).set e2.toNat { q00 ns e2 with f4 := e1 }, 0) := by
    have hA := (rd_all (P := small 200) (small_z 200) h.small e1).1
    unfold q1t edMid
    rw [if_neg (by decide), if_pos c1, edl0_all e4 e5 5 _ (by omega) k (by omega), Option.bind_some, if_neg (by decide), if_neg (by decide), if_neg (by decide), if_pos rfl, if_pos ⟨c2.1, c2.2, hne⟩, hir, Option.bind_some, if_pos ⟨by omega, hi, by omega⟩, Option.bind_some, List.set_comm _ _ (by omega)]
  have s3 := small_up (M' := 300) (by omega) h.small
  have a3 := fun i : Int => rd_all (P := small 300) (small_z 300) s3 i
  have hsm : ∀ y ∈ (ns.set e1.toNat { q00 ns e1 with f5 := (q00 ns e1).f5.take i.toNat ++ e2 :: (q00 ns e1).f5.drop i.toNat }).set e2.toNat { q00 ns e2 with f4 := e1 }, small 300 y :=
    small_set (x := { q00 ns e2 with f4 := e1 }) (small_set (x := { q00 ns e1 with f5 := (q00 ns e1).f5.take i.toNat ++ e2 :: (q00 ns e1).f5.drop i.toNat }) s3 _ ⟨(a3 e1).1, by show ((q00 ns e1).f5.take i.toNat ++ e2 :: (q00 ns e1).f5.drop i.toNat).length ≤ 300; rw [List.length_append, List.length_take, List.length_cons, List.length_drop]; omega⟩) _ ⟨(a3 e2).1, (a3 e2).2⟩
  have hlen : ((ns.set e1.toNat { q00 ns e1 with f5 := (q00 ns e1).f5.take i.toNat ++ e2 :: (q00 ns e1).f5.drop i.toNat }).set e2.toNat { q00 ns e2 with f4 := e1 }).length ≤ 201 := by rw [List.length_set, List.length_set]; omega
  by_cases c40 : (q0m ns e1 : Int) + 1 + H > 40
  · rw [if_pos c40, Option.bind_some] at hP
    exact both_made h q 5 e1 e2 e3 e4 e5 e6 e7 l8 e9 e10 l11 k hk hP hE2 hN hsm hlen (.inr rfl) (hput.trans ⟨fun e => by omega, fun e => by cases e⟩)
  · rw [if_neg c40, if_pos ⟨hi, by omega⟩, Option.bind_some] at hP
    exact both_made h q 5 e1 e2 e3 e4 e5 e6 e7 l8 e9 e10 l11 k hk hP hE2 hN hsm hlen (.inl ⟨rfl, rfl, rfl⟩) (hput.trans ⟨fun _ => rfl, fun _ => by omega⟩)
theorem both_all {ns : List S43} (h : DocOk ns) (q : Bool) (e0 e1 e2 e3 : Int) (e4 e5 : ByteArray) (e6 : Int) (e7 : ByteArray) (l8 : List S122) (e9 : ByteArray) (e10 : Int) (l11 : List Int) (k : Nat) (hk : 200000 < k) (h4 : e4.size ≤ 140737488355328) (h7 : e7.size ≤ 140737488355328) (h8 : smallA l8) (hl8 : l8.length * 32 ≤ 140737488355328) : Both k ns q e0 e1 e2 e3 e4 e5 e6 e7 l8 e9 e10 l11 := by
  by_cases d1 : e0 = 1
  · subst d1; exact both_attr h q e1 e2 e3 e4 e5 e6 e7 l8 e9 e10 l11 k hk h4
  by_cases d2 : e0 = 2
  · subst d2; exact both_drop h q e1 e2 e3 e4 e5 e6 e7 l8 e9 e10 l11 k hk
  by_cases d3 : e0 = 3
  · subst d3; exact both_text h q e1 e2 e3 e4 e5 e6 e7 l8 e9 e10 l11 k hk
  by_cases d4 : e0 = 4
  · subst d4; exact both_make h q e1 e2 e3 e4 e5 e6 e7 l8 e9 e10 l11 k hk h7 h8 hl8
  by_cases d5 : e0 = 5
  · subst d5; exact both_insert h q e1 e2 e3 e4 e5 e6 e7 l8 e9 e10 l11 k hk
  by_cases d6 : e0 = 6
  · subst d6; exact both_remove h q e1 e2 e3 e4 e5 e6 e7 l8 e9 e10 l11 k hk
  refine q18 q e0 e1 e2 e3 e4 e5 e6 e7 l8 e9 e10 l11 k (a := ns) (b := 0) (r := 1) ?_ (by decide) ?_
  · unfold q1i
    rw [if_neg d1, if_neg d2, if_neg d3, if_neg d4, if_neg d5, if_neg d6]
  · unfold clerestoryref1_EditErr.f
    rw [btw, Option.bind_some, if_neg (by simp; omega)]
end Go.Proofs.YthjnallbbhnndaaDoor.Dm
namespace Go.Proofs.YthjnallbbhnndaaDoor.Rd
open Go.ChangeShapes Go.WideShapes Go.ChangeAt Go.RowKit Go.Proofs.YthjnallbbhnndaaDoorW.PrintWords
def Reads {α : Type} (P : Program) (t : TypeId) (k : Kd α) (Q : α → Prop) : Prop :=
  P.cellsOf t = k.sz ∧ ∀ (H : Type) (enc : TypeId × Value → H) (w : World) (fuel : Nat) (cs : List Value) (x : DataW H × List MemPlace),
    DataW.trod enc P w 0 (fun _ => true) true fuel t cs = some x → (∀ n ∈ x.1.weights P t, n ≤ reachBytes) → ∃ a : α, k.K w a cs ∧ Q a
variable {P : Program} {t : TypeId}
theorem Reads.imp {α : Type} {k : Kd α} {Q Q' : α → Prop} (h : Reads P t k Q) (hq : ∀ a, Q a → Q' a) : Reads P t k Q' := by
  refine ⟨h.1, fun H enc w fuel cs x hx hw => ?_⟩
  obtain ⟨a, ha, hq'⟩ := h.2 H enc w fuel cs x hx hw
  exact ⟨a, ha, hq a hq'⟩
theorem reads_int {k : IntKind} (ht : P.underlying t = some (.int k)) (hc : P.cellsOf t = 1) : Reads P t (Kd.int k) (fun n => (Lit.int k n).wf = true) := by
  refine ⟨hc, fun H enc w fuel cs x hx _ => ?_⟩
  obtain ⟨n, rfl, _, hw⟩ := DataW.trod_int ht hx
  exact ⟨n, rfl, hw⟩
theorem reads_bool (ht : P.underlying t = some .bool) (hc : P.cellsOf t = 1) : Reads P t Kd.bool (fun _ => True) := by
  refine ⟨hc, fun H enc w fuel cs x hx _ => ?_⟩
  obtain ⟨b, rfl, _⟩ := DataW.trod_bool ht hx
  exact ⟨b, rfl, trivial⟩
theorem reads_string (ht : P.underlying t = some .string) (hc : P.cellsOf t = 1) : Reads P t Kd.string (fun s => s.size ≤ reachBytes) := by
  refine ⟨hc, fun H enc w fuel cs x hx hw => ?_⟩
  obtain ⟨s, rfl, rfl, _⟩ := DataW.trod_string ht hx
  exact ⟨s, rfl, by simpa [DataW.weights] using hw⟩
theorem weightsAll_mem {H : Type} {e : TypeId} : ∀ {l : List (DataW H)} {d : DataW H}, d ∈ l → ∀ n ∈ d.weights P e, n ∈ DataW.weightsAll P e l
  | a :: l, d, hd, n, hn => by
    unfold DataW.weightsAll
    rcases List.mem_cons.1 hd with rfl | h
    · exact List.mem_append_left _ hn
    · exact List.mem_append_right _ (weightsAll_mem h n hn)
theorem choose_list {α : Type} {p : Nat → α → Prop} : ∀ (n : Nat), (∀ i, i < n → ∃ a, p i a) → ∃ l : List α, l.length = n ∧ ∀ i a, l[i]? = some a → p i a
  | 0, _ => ⟨[], rfl, fun i a h => by simp at h⟩
  | n + 1, h => by
    obtain ⟨l, hl, hp⟩ := choose_list n (fun i hi => h i (by omega))
    obtain ⟨a, ha⟩ := h n (by omega)
    refine ⟨l ++ [a], by simp [hl], fun i b hb => ?_⟩
    by_cases hi : i < l.length
    · rw [List.getElem?_append_left hi] at hb
      exact hp i b hb
    · have := (List.getElem?_eq_some_iff.1 hb).1
      simp at this
      have e : i = l.length := by omega
      subst e
      simp at hb
      subst hb
      rw [hl]
      exact ha
theorem reads_slice {e : TypeId} {α : Type} {k : Kd α} {Q : α → Prop} (ht : P.underlying t = some (.slice e)) (hc : P.cellsOf t = 1) (he : Reads P e k Q) :
    Reads P t (Kd.slice e k) (fun l => l.length * P.bytesOf e ≤ reachBytes ∧ l.length ≤ 9223372036854775807 ∧ ∀ a ∈ l, Q a) := by
  refine ⟨hc, fun H enc w fuel cs x hx hw => ?_⟩
  rcases DataW.trod_slice ht hx with ⟨rfl, rfl⟩ | ⟨a, len, cap, elems, rest, n, _, rfl, rfl, _, hl, hm, hlen, hel, _, _⟩
  · exact ⟨[], ⟨none, 0, rfl, Nat.le_refl _, ⟨rfl, by simp, fun h => absurd h (by simp)⟩⟩, by simp, by simp, by simp⟩
  · have hw' : ∀ m ∈ ((elems.map (·.1)).length + (rest.map (·.1)).length) * P.bytesOf e :: (DataW.weightsAll P e (elems.map (·.1)) ++ DataW.weightsAll P e (rest.map (·.1))), m ≤ reachBytes := by
      have := hw
      unfold DataW.weights at this
      rw [ht] at this
      exact this
    have each : ∀ i, i < len → ∃ b, (∃ c, w.cells? 0 (a.add (i * P.cellsOf e)) (P.cellsOf e) = some c ∧ k.K w b c) ∧ Q b := by
      intro i hi
      have h1 := hel i hi
      have hi' : i < elems.length := by omega
      rw [List.getElem?_eq_getElem hi', Option.bind_eq_some_iff] at h1
      obtain ⟨c, hcs, hy⟩ := h1
      obtain ⟨b, hb, hq⟩ := he.2 H enc w n c _ hy (fun m hm' => hw' m (List.mem_cons_of_mem _ (List.mem_append_left _ (weightsAll_mem (List.mem_map.2 ⟨_, List.getElem_mem hi', rfl⟩) m hm'))))
      exact ⟨b, ⟨c, hcs, hb⟩, hq⟩
    obtain ⟨l, hll, hp⟩ := choose_list len each
    have hmax : len ≤ 9223372036854775807 := by unfold maxLen at hm; omega
    refine ⟨l, ⟨some a, cap, by rw [hll], by omega, ⟨rfl, by omega, fun _ => ⟨a, rfl, fun j p hj => ?_⟩⟩⟩, ?_, by omega, fun b hb => ?_⟩
    · obtain ⟨⟨c, hcs, hb⟩, _⟩ := hp j p hj
      refine ⟨c, k.K_len hb, hb, fun i u hu => ?_⟩
      obtain ⟨_, hlen', hcell⟩ := World.cells?_some hcs
      have hi := (List.getElem?_eq_some_iff.1 hu).1
      have := hcell i (by omega)
      rw [hu, Go.Deep.add_add] at this
      rw [← he.1]
      exact this
    · have := hw' _ (List.mem_cons_self ..)
      simp only [List.length_map] at this
      rw [hll, ← hlen]
      exact Nat.le_trans (Nat.mul_le_mul_right _ (Nat.le_add_right _ _)) this
    · obtain ⟨i, hi⟩ := List.getElem?_of_mem hb
      exact (hp i b hi).2
def ReadsF {α : Type} (P : Program) (fs : List Field) (off : Nat) (k : Kd α) (Q : α → Prop) : Prop :=
  ∀ (H : Type) (enc : TypeId × Value → H) (w : World) (n : Nat) (cs : List Value) (xs : List (DataW H × List MemPlace)), xs.length = fs.length →
    (∀ (i : Nat) (f : Field), fs[i]? = some f → DataW.trod enc P w 0 (fun _ => true) true n f.type ((cs.drop f.offset).take (P.cellsOf f.type)) = xs[i]?) →
    (∀ m ∈ DataW.weightsEach P (fs.map (·.type)) (xs.map (·.1)), m ≤ reachBytes) → cs.length = off + k.sz → ∃ a : α, k.K w a (cs.drop off) ∧ Q a
theorem readsF_one {f : Field} {off : Nat} {α : Type} {k : Kd α} {Q : α → Prop} (hf : f.offset = off) (h : Reads P f.type k Q) : ReadsF P [f] off k Q := by
  intro H enc w n cs xs hl hx hw hc
  obtain ⟨y, rfl⟩ : ∃ y, xs = [y] := by
    match xs, hl with
    | [y], _ => exact ⟨y, rfl⟩
  have h1 := hx 0 f rfl
  rw [hf, h.1, List.take_of_length_le (by rw [List.length_drop]; omega)] at h1
  exact h.2 H enc w n _ y h1 (fun m hm => hw m (by simp [DataW.weightsEach, hm]))
theorem readsF_cons {f : Field} {fs : List Field} {off : Nat} {α β : Type} {k1 : Kd α} {k2 : Kd β} {Q1 : α → Prop} {Q2 : β → Prop} (hf : f.offset = off) (h : Reads P f.type k1 Q1) (hr : ReadsF P fs (off + k1.sz) k2 Q2) :
    ReadsF P (f :: fs) off (Kd.pair k1 k2) (fun p => Q1 p.1 ∧ Q2 p.2) := by
  intro H enc w n cs xs hl hx hw hc
  obtain ⟨y, ys, rfl⟩ : ∃ y ys, xs = y :: ys := by
    match xs, hl with
    | y :: ys, _ => exact ⟨y, ys, rfl⟩
  have h1 := hx 0 f rfl
  rw [hf, h.1] at h1
  have hsz : (Kd.pair k1 k2).sz = k1.sz + k2.sz := rfl
  obtain ⟨a, ha, hqa⟩ := h.2 H enc w n _ y h1 (fun m hm => hw m (by simp [DataW.weightsEach, hm]))
  obtain ⟨b, hb, hqb⟩ := hr H enc w n cs ys (by simpa using hl) (fun i g hg => by simpa using hx (i + 1) g (by simpa using hg)) (fun m hm => hw m (by simp [DataW.weightsEach]; exact .inr (by simpa using hm))) (by omega)
  refine ⟨(a, b), ⟨_, _, ?_, ha, hb⟩, hqa, hqb⟩
  rw [← List.drop_drop, List.take_append_drop]
theorem reads_struct {fs : Array Field} {α : Type} {k : Kd α} {Q : α → Prop} (ht : P.underlying t = some (.struct fs)) (hc : P.cellsOf t = k.sz) (h : ReadsF P fs.toList 0 k Q) : Reads P t k Q := by
  refine ⟨hc, fun H enc w fuel cs x hx hw => ?_⟩
  obtain ⟨xs, n, _, rfl, hl, hlen, hf⟩ := DataW.trod_struct ht hx
  have := h H enc w n cs xs (by simpa using hlen) (fun i f hi => hf i f (by simpa using hi)) (fun m hm => hw m (by unfold DataW.weights; rw [ht]; exact hm)) (by omega)
  simpa using this
theorem Reads.iso {α β : Type} {k : Kd α} {Q : α → Prop} (h : Reads P t k Q) (f : β → α) (g : α → β) (hg : ∀ a, f (g a) = a) : Reads P t (Kd.iso k f) (fun b => Q (f b)) := by
  refine ⟨h.1, fun H enc w fuel cs x hx hw => ?_⟩
  obtain ⟨a, ha, hq⟩ := h.2 H enc w fuel cs x hx hw
  exact ⟨g a, by show k.K w (f (g a)) cs; rw [hg]; exact ha, by show Q (f (g a)); rw [hg]; exact hq⟩
theorem open_slice_arg {H : Type} {enc : TypeId × Value → H} {r : Reach} {b0 : Nat} {w : World} {e : TypeId} {α : Type} {k : Kd α} {Q : List α → Prop} {v : Value} {d : DataW H} {p : List MemPlace}
    (hr : Reads P t (Kd.slice e k) Q) (ht : P.underlying t = some (.slice e)) (hv : Value.okWide P w r b0 t v) (h : DataW.Trod enc P w 0 (fun _ => true) true t v d p) (hw : ∀ n ∈ d.weights P t, n ≤ reachBytes) :
    ∃ (A : Option Addr) (c : Nat) (l : List α), v = .slice A l.length c ∧ l.length ≤ c ∧ Kd.C k w A l.length l ∧ Q l := by
  obtain ⟨a0, len, cap, rfl⟩ := okWide_slice ht hv
  obtain ⟨fuel, hf⟩ := h
  obtain ⟨l, ⟨A, c, hcs, hlc, hC⟩, hq⟩ := hr.2 H enc w fuel _ _ hf hw
  simp only [Value.cells, List.cons.injEq, and_true] at hcs
  exact ⟨A, c, l, hcs, hlc, hC, hq⟩
theorem open_struct_arg {H : Type} {enc : TypeId × Value → H} {r : Reach} {b0 : Nat} {w : World} {fs : Array Field} {α : Type} {k : Kd α} {Q : α → Prop} {v : Value} {d : DataW H} {p : List MemPlace}
    (hr : Reads P t k Q) (ht : P.underlying t = some (.struct fs)) (hv : Value.okWide P w r b0 t v) (h : DataW.Trod enc P w 0 (fun _ => true) true t v d p) (hw : ∀ n ∈ d.weights P t, n ≤ reachBytes) :
    ∃ (cs : List Value) (x : α), v = .agg ⟨cs⟩ ∧ k.K w x cs ∧ Q x := by
  obtain ⟨cs, rfl, _⟩ := okWide_struct ht hv
  obtain ⟨fuel, hf⟩ := h
  obtain ⟨x, hx, hq⟩ := hr.2 H enc w fuel _ _ hf hw
  exact ⟨cs.toList, x, rfl, hx, hq⟩
theorem weights_arg {H : Type} {ts : List TypeId} {ds : List (DataW H)} (h : (DataW.weightsEach P ts ds).all (· ≤ reachBytes) = true) {j : Nat} {d : DataW H} (ht : ts[j]? = some t) (hd : ds[j]? = some d) : ∀ n ∈ d.weights P t, n ≤ reachBytes := by
  intro n hn
  have := DataW.weights_mem_each ht hd n hn
  simpa using (List.all_eq_true.1 h) n this
end Go.Proofs.YthjnallbbhnndaaDoor.Rd
