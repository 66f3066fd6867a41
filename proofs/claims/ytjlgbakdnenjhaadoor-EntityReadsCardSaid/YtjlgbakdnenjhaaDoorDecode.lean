/- chars.Decode: all the signs of a text, in a slice of the call's own; nothing that lay has turned. Condition: the text's length. -/
import Derived.Test.YtjlgbakdnenjhaaDoorSigns
import Derived.Maps.AppendAt
namespace Go.Proofs.YtjlgbakdnenjhaaDoor.Sg
open Go Go.RowKit Go.Shelf Go.Proofs Go.Proofs.YtjlgbakdnenjhaaDoor.L Go.Proofs.YtjlgbakdnenjhaaDoor.XCa Go.Proofs.YtjlgbakdnenjhaaDoorW.PrintWords
attribute [local go_sem] Oper.semAt_some

abbrev TR : Nat := 22
abbrev T4 : Nat := 21
theorem infoR : (Tryd.prog.info? T4).map (fun i => (i.zero, i.size, i.bytes)) = some (some (.int .i32 0), 1, 4) := by kernel_rfl

/-- The signs alone. -/
def runesAt (l : List (Nat × Int)) : List Int := l.map (·.2)
def runes (s : ByteArray) : List Int := runesAt (sigs s)

theorem sgAt_len : ∀ (d : Nat) (l : List Int) (a : Nat), (sgAt d l a).length ≤ d
  | 0, _, _ => Nat.le_refl _
  | d + 1, [], _ => Nat.zero_le _
  | d + 1, b :: t, a => by
    have := sgAt_len d ((b :: t).drop (sg1 (b :: t)).2) (a + (sg1 (b :: t)).2)
    simp only [sgAt, List.length_cons]
    omega

theorem sigs_len (s : ByteArray) : (sigs s).length ≤ s.size := sgAt_len _ _ _

/-- What the rounds of chars.Decode keep. -/
def DI (B : Nat) (s : ByteArray) (w : World) (pre : List (Nat × Int)) (W : World) : Prop :=
  ((∃ v, Boxed W B TR v ∧ W.ownsRow B T4 1 v pre.length ((runesAt pre).map (Value.int .i32)) ∧ True) ∧ Boxed W (B + 1) 9 (.string s)) ∧ Below B w W

set_option maxRecDepth 100000 in
set_option maxHeartbeats 2000000 in
theorem decode_ok (s : ByteArray) (hs : s.size ≤ 17592186044416) (w : World) :
    Calls Tryd.prog 6 #[.string s] w fun e W' => ∃ v, e = .returned v ∧ W'.ownsRow w.heap.size T4 1 v (runes s).length ((runes s).map (Value.int .i32)) ∧ Below w.heap.size w W' := by
  refine (callsIn_wide (n := 12)).1 ?_
  obtain ⟨i0, hi, hz0, hz1, hz2⟩ := info_parts infoR
  refine callsIn_of_wp_marks Tryd.func6 rfl trivial ?_ rfl
  simp only [Tryd.ntmps6, List.size_toArray, List.length_cons, List.length_nil, Nat.reduceAdd, Nat.reduceSub, Array.replicate_succ, Array.replicate_zero, List.push_toArray, List.append_toArray, List.nil_append, List.cons_append]
  gi_wp2_with (refine ⟨trivial, ?_⟩; gi_at_call 19; refine (signs_in _ s _).mono ?_; rintro e w' ⟨rfl, rfl⟩)
  have bO := Boxed.new w TR (.slice none 0 0)
  have bN := Boxed.new (w.alloc (.cells #[.slice none 0 0] TR)) 9 (.string s)
  rw [World.size_alloc] at bN
  have hB0 : Below w.heap.size w ((w.alloc (.cells #[.slice none 0 0] TR)).alloc (.cells #[.string s] 9)) := ((Below.refl _ w).alloc (Nat.le_refl _) _).alloc (by simp) _
  refine wpIn_rangeFunc_ownG rfl (by decide) (gf := 31) (lb := #[.pointer (some ⟨w.heap.size + 1, 0, none⟩)]) rfl trivial (enters_of Tryd.func31 (by kernel_rfl) rfl)
    (signs_stops _ (by decide) (w.heap.size + 1) s (by omega) _ bN encS (fun _ _ _ => rfl)) kpB_t (kpB_b (by simp)) (Below.refl _ _) (fun _ => rfl)
    (DI w.heap.size s w)
    (fun _ _ _ => False)
    (OwnFrom.and (OwnFrom.and (Own.from (holdsRow_own w.heap.size w.heap.size TR T4 1 (fun pre => pre.length) (fun pre => (runesAt pre).map (Value.int .i32)) (fun _ _ => True)) _) (Own.from (boxed_own _ _ (fun _ => .string s)) _)) (ownFrom_below (Nat.le_refl _) (by simp; omega)))
    (fun _ _ _ _ _ hs _ _ => hs)
    ⟨⟨⟨_, bO.alloc _, World.ownsRow_nil _ _ _ _, trivial⟩, bN⟩, hB0⟩
    (fun x => { tmps := #[.string s, undef, .slice none 0 0, .pointer (some ⟨w.heap.size, 0, none⟩), undef, .int .i32 x.2, .string s, .func (.func 31) #[] #[.pointer (some ⟨w.heap.size + 1, 0, none⟩)], .int .i64 x.1, .int .i32 x.2, undef, undef, undef, undef, undef], defers := [] }) ?assign ?body ?done ?stop
  case assign =>
    intro l x W K hK
    dsimp only [encS]
    gi_wp2
    exact hK
  case body =>
    rintro l pre x W ⟨⟨⟨v, hv, hrow, _⟩, hbN⟩, hB⟩ hlt
    have hc := hv.cell
    gi_wp2_with (gi_at_builtin; refine wpListIn_append_own _ rfl _ _ TR rfl w.heap.size T4 i0 (.int .i32 0) 1 4 Tryd.underlying22 hi hz0 hz1 hz2 rfl (by decide) _ _ _ rfl (hrow.alloc _) ⟨W.heap.size, 0, none⟩ 1 1 [.int .i32 x.2] rfl rfl (cell_one_new _ _ _) (by simp [Value.oneCell']) (by show _ ≤ 9223372036854775807; omega) (by omega) (by have := hB.size; simp; omega) ?_; intro v' w1 hown' hgrow _; obtain ⟨g', cap', rfl⟩ := ownsRow_succ hown'; obtain ⟨hv1, hv2, hr2, hk2, hb2⟩ := hv.appended (by decide) hrow hB.size (Nat.le_refl _) hown' hgrow; have hc1 := hv1.cell; have hf1 := hv1.frozen)
    have hbN1 := (hbN.alloc _).kept hgrow (hbN.not_row (by decide) hrow)
    have hbN2 := hbN1.other (B' := w.heap.size) (by omega) (.slice (some ⟨g', 0, none⟩) (pre.length + 1) cap')
    exact ⟨hk2.from _, Eq.trans hbN2 hbN.symm, ⟨⟨_, hv2, by simpa [runesAt] using hr2, trivial⟩, hbN2⟩, hB.trans hb2⟩
  case done =>
    rintro D ys W hD rfl ⟨⟨⟨v, hv, hrow, _⟩, _⟩, hB⟩ hK
    have hc := hv.cell
    gi_wp2
    refine ⟨by simp, .inl ⟨_, _, rfl, run_takeDeferred hK, ?_⟩⟩
    exact ⟨_, results_tmp rfl _ _ _, v, rfl, by simpa [runes, runesAt] using ownsRow_putObj hrow _ hK rfl, hB.trans (belowK_b (w := w) (Nat.le_refl _) W D _ _ (by simp at hD; omega) hK rfl rfl)⟩
  case stop =>
    rintro D c pre W _ _ h _
    exact h.elim
end Go.Proofs.YtjlgbakdnenjhaaDoor.Sg
