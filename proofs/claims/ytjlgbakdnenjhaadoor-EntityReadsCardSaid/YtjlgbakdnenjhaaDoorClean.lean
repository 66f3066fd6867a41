/- chars.Clean: what is written is the text's signs cleaned, in line; nothing that lay has turned. Condition: the text's length. -/
import Derived.Test.YtjlgbakdnenjhaaDoorDecode
import Derived.Test.YtjlgbakdnenjhaaDoorChars
namespace Go.Proofs.YtjlgbakdnenjhaaDoor.Sg
open Go Go.RowKit Go.Shelf Go.Proofs Go.Proofs.YtjlgbakdnenjhaaDoor.L Go.Proofs.YtjlgbakdnenjhaaDoor.XCa Go.Proofs.YtjlgbakdnenjhaaDoorW.PrintWords Go.Proofs.YtjlgbakdnenjhaaDoor.Bd Go.Proofs.YtjlgbakdnenjhaaDoor.Ch
attribute [local go_sem] Oper.semAt_some

/-- What one sign is cleaned to, behind another. -/
def cl (last r : Int) : List Int := if r = 0 then [65533] else if r = 13 then [10] else if r = 10 then (if last = 13 then [] else [10]) else [r]
def clean (last : Int) : List Int → List Int
  | [] => []
  | r :: t => cl last r ++ clean r t

theorem clean_snoc : ∀ (l : List Int) (last r : Int), clean last (l ++ [r]) = clean last l ++ cl (l.getLastD last) r
  | [], last, r => by simp [clean]
  | a :: t, last, r => by
    simp only [List.cons_append, clean, clean_snoc t a r, List.append_assoc]
    rw [show (a :: t).getLastD last = t.getLastD a by cases t <;> rfl]

theorem cl_len (last r : Int) : (cl last r).length ≤ 1 := by
  unfold cl
  split
  · exact Nat.le_refl _
  · split
    · exact Nat.le_refl _
    · split
      · split
        · exact Nat.zero_le _
        · exact Nat.le_refl _
      · exact Nat.le_refl _

theorem clean_len : ∀ (l : List Int) (last : Int), (clean last l).length ≤ l.length
  | [], _ => Nat.le_refl _
  | a :: t, last => by
    have := clean_len t a
    have := cl_len last a
    simp only [clean, List.length_append, List.length_cons]
    omega

theorem builder_kept {B b : Nat} {bs : List Value} {W W' : World} {row : Option Nat} (h : Lib.IsBuilderF TB T8 B b bs W) (hg : W.grownBy W' row)
    (hne : ∀ r, row = some r → r ≠ b ∧ ∃ o, W.heap[r]? = some o ∧ ∀ c fz, o ≠ .cells c T8 fz) : Lib.IsBuilderF TB T8 B b bs W' := by
  have one : ∀ p, Lib.BuilderAtF TB T8 B b p bs W → Lib.BuilderAtF TB T8 B b p bs W' := by
    rintro p h
    have hlt := h.lt
    obtain ⟨hB, v, hb, hown, hn⟩ := h
    refine ⟨hB, v, (hg.block b hlt (fun e => (hne b e.symm).1 rfl)).trans hb, hown.kept hg ?_, hn⟩
    rcases hown.2 with ⟨rfl, _⟩ | ⟨g, cap, cur, fz, rfl, _, hgg, _⟩
    · exact .inl rfl
    · refine .inr fun e => ?_
      obtain ⟨_, o, ho, hc⟩ := hne g (by simpa [Value.ownBlock] using e.symm)
      rw [hgg] at ho
      cases ho
      exact hc _ _ rfl
  exact h.elim (fun x => .inl (one _ x)) (fun x => .inr (one _ x))

theorem builder_own {β : Type} (B b : Nat) (f : β → List Value) : Own (fun s W => Lib.IsBuilderF TB T8 B b (f s) W) := fun s X Y row h hg hr =>
  builder_kept h hg fun r e => by
    obtain ⟨o, ho, hc⟩ := hr r e
    refine ⟨?_, o, ho, fun c fz e2 => by subst e2; cases hc⟩
    rintro rfl
    rcases h with ⟨_, v, hb, _⟩ | ⟨_, v, hb, _⟩ <;> · rw [hb] at ho; cases ho; cases hc

/-- A sign as the iterator hands it on: within its range, whatever. -/
def rr (x : Nat × Int) : Int := if 0 ≤ x.2 ∧ x.2 < 2097152 then x.2 else 0
def encR (x : Nat × Int) : Array Value := #[.int .i64 (x.1 : Int), .int .i32 (rr x)]
theorem rr_range (x : Nat × Int) : 0 ≤ rr x ∧ rr x < 2097152 := by
  unfold rr
  split
  · assumption
  · decide
theorem encR_eq (x : Nat × Int) (h0 : 0 ≤ x.2) (h1 : x.2 < 2097152) : encR x = encS x := by simp [encR, encS, rr, h0, h1]

theorem sgAt_rr (H : ∀ l : List Int, isBytes l → 0 ≤ (sg1 l).1 ∧ (sg1 l).1 < 2097152) : ∀ (d : Nat) (l : List Int) (a : Nat), isBytes l → (sgAt d l a).map rr = runesAt (sgAt d l a)
  | 0, _, _, _ => rfl
  | d + 1, [], _, _ => rfl
  | d + 1, b :: t, a, hb => by
    have ih := sgAt_rr H d ((b :: t).drop (sg1 (b :: t)).2) (a + (sg1 (b :: t)).2) (isBytes_drop hb _)
    have h := H (b :: t) hb
    simp only [sgAt, List.map_cons, runesAt, rr] at ih ⊢
    rw [if_pos h, ih]

theorem sigs_rr (s : ByteArray) : (sigs s).map rr = runes s := sgAt_rr sg1_range _ _ _ (isBytes_of s)

/-- What the rounds of chars.Clean keep. -/
def CI (B : Nat) (s : ByteArray) (w : World) (pre : List (Nat × Int)) (W : World) : Prop :=
  ((Lib.IsBuilderF TB T8 B B (Lib.byteCells (bytesOfSigns (clean 0 (pre.map rr)))) W ∧ Boxed W (B + 1) T4 (.int .i32 ((pre.map rr).getLastD 0))) ∧ Boxed W (B + 2) 9 (.string s)) ∧ Below B w W

theorem ci_own (B B' : Nat) (s : ByteArray) (w : World) (h1 : B ≤ w.heap.size) (h2 : B ≤ B') : OwnFrom B' (CI B s w) :=
  OwnFrom.and (OwnFrom.and (OwnFrom.and (Own.from (builder_own B B (fun pre : List (Nat × Int) => Lib.byteCells (bytesOfSigns (clean 0 (pre.map rr))))) _) (Own.from (boxed_own _ _ (fun pre : List (Nat × Int) => .int .i32 ((pre.map rr).getLastD 0))) _)) (Own.from (boxed_own _ _ (fun _ => .string s)) _)) (ownFrom_below h1 h2)

theorem boxed_others {W W1 : World} {B b : Nat} {t : TypeId} {v : Value} (h : Boxed W B t v) (hk : Lib.OthersKept T8 (some b) W W1) (hb : B ≠ b) (ht : t ≠ T8) : Boxed W1 B t v :=
  hk B _ h (fun e => hb (by simpa using e)) (fun c fz e => ht (by cases e; rfl))

/-- Behind a round's writing: 'last' is stored. -/
theorem ci_step {B : Nat} {s : ByteArray} {w W W1 : World} {pre : List (Nat × Int)} {x : Nat × Int} {ys : List Value} (hI : CI B s w pre W)
    (h1 : Lib.IsBuilderF TB T8 B B ys W1) (hb1 : Below B W W1) (hk1 : Lib.OthersKept T8 (some B) W W1) (hys : ys = Lib.byteCells (bytesOfSigns (clean 0 (pre.map rr))) ++ Lib.byteCells (bytesOfSigns (cl ((pre.map rr).getLastD 0) (rr x)))) :
    KeepsFrom (B + 3) W (W1.setCell ⟨B + 1, 0, none⟩ (.int .i32 (rr x))) ∧ KpB (B + 2) W (W1.setCell ⟨B + 1, 0, none⟩ (.int .i32 (rr x))) ∧ CI B s w (pre ++ [x]) (W1.setCell ⟨B + 1, 0, none⟩ (.int .i32 (rr x))) := by
  obtain ⟨⟨⟨hbd, hbl⟩, hbs⟩, hB⟩ := hI
  have hbl1 := boxed_others hbl hk1 (by omega) (by decide)
  have hbs1 := boxed_others hbs hk1 (by omega) (by decide)
  have hbs2 := hbs1.other (B' := B + 1) (by omega) (.int .i32 (rr x))
  have e1 : (pre ++ [x]).map rr = pre.map rr ++ [(rr x)] := by simp
  refine ⟨?_, Eq.trans hbs2 hbs.symm, ⟨⟨?_, ?_⟩, hbs2⟩, (hB.trans hb1).setCell (p := ⟨B + 1, 0, none⟩) (by show B ≤ B + 1; omega) _⟩
  · refine KeepsFrom.trans ⟨hb1.size, fun k o _ hk ho => hk1 k o hk ?_ ?_⟩ ((KeepsOthers.setCell _ _ _).from _)
    · intro e
      obtain rfl : k = B := by simpa using e
      rcases hbd with ⟨_, v, hb, _⟩ | ⟨_, v, hb, _⟩ <;> · rw [hb] at hk; cases hk; cases ho
    · intro c fz e
      subst e
      cases ho
  · rw [e1, clean_snoc, show bytesOfSigns (clean 0 (pre.map rr) ++ cl ((pre.map rr).getLastD 0) (rr x)) = bytesOfSigns (clean 0 (pre.map rr)) ++ bytesOfSigns (cl ((pre.map rr).getLastD 0) (rr x)) by simp [bytesOfSigns], Lib.byteCells_append, ← hys]
    refine builder_kept h1 (grownBy_setCell' W1 (B + 1) _) fun r e => ?_
    obtain rfl : B + 1 = r := by simpa using e
    exact ⟨by omega, _, hbl1, fun c fz e2 => by cases e2⟩
  · rw [e1, show (pre.map rr ++ [(rr x)]).getLastD 0 = (rr x) by simp]
    exact hbl1.set _

theorem bytes_one (r : Int) : Lib.byteCells (bytesOfSigns [r]) = Lib.runeCells r := by
  rw [show bytesOfSigns [r] = Lib.encodeRune r by simp [bytesOfSigns], Lib.byteCells_encodeRune]

theorem cells_nl : Lib.runeCells 10 = [.int .u8 10] := by rfl

theorem cl_zero (last : Int) : cl last 0 = [65533] := by simp [cl]
theorem cl_cr (last : Int) : cl last 13 = [10] := by simp [cl]
theorem cl_nl {last : Int} (h : last ≠ 13) : cl last 10 = [10] := by simp [cl, h]
theorem cl_no : cl 13 10 = [] := by decide
theorem cl_else {last r : Int} (h0 : r ≠ 0) (h1 : r ≠ 13) (h2 : r ≠ 10) : cl last r = [r] := by simp [cl, h0, h1, h2]

theorem builder_new3 (w : World) : Lib.IsBuilderF TB T8 w.heap.size w.heap.size (Lib.byteCells []) (w.alloc (.cells #[.pointer none, .slice none 0 0] TB)) := builder_new w

set_option maxRecDepth 100000 in
set_option maxHeartbeats 4000000 in
theorem clean_ok (s : ByteArray) (hs : s.size ≤ 17592186044416) (w : World) :
    Calls Tryd.prog 22 #[.string s] w fun e W' => e = .returned (.string ⟨(bytesOfSigns (clean 0 (runes s))).toArray⟩) ∧ Below w.heap.size w W' := by
  refine (callsIn_wide (n := 12)).1 ?_
  refine callsIn_of_wp_marks Tryd.func22 rfl trivial ?_ rfl
  simp only [Tryd.ntmps22, List.size_toArray, List.length_cons, List.length_nil, Nat.reduceAdd, Nat.reduceSub, Array.replicate_succ, Array.replicate_zero, List.push_toArray, List.append_toArray, List.nil_append, List.cons_append]
  gi_wp2_with (refine ⟨trivial, ?_⟩; gi_at_call 19; refine (signs_in _ s _).mono ?_; rintro e w' ⟨rfl, rfl⟩)
  have bO := builder_new w
  have bL := (Boxed.new (w.alloc (.cells #[.pointer none, .slice none 0 0] TB)) T4 (.int .i32 0)).alloc (.cells #[.string s] 9)
  have bN := Boxed.new ((w.alloc (.cells #[.pointer none, .slice none 0 0] TB)).alloc (.cells #[.int .i32 0] T4)) 9 (.string s)
  simp only [World.size_alloc] at bL bN
  have bO2 := Lib.IsBuilderF.alloc (Lib.IsBuilderF.alloc bO (.cells #[.int .i32 0] T4)) (.cells #[.string s] 9)
  have hB0 : Below w.heap.size w (((w.alloc (.cells #[.pointer none, .slice none 0 0] TB)).alloc (.cells #[.int .i32 0] T4)).alloc (.cells #[.string s] 9)) := (((Below.refl _ w).alloc (Nat.le_refl _) _).alloc (by simp) _).alloc (by simp; omega) _
  have hsz : (((w.alloc (.cells #[.pointer none, .slice none 0 0] TB)).alloc (.cells #[.int .i32 0] T4)).alloc (.cells #[.string s] 9)).heap.size = w.heap.size + 3 := by simp
  obtain ⟨W0, hW0⟩ : ∃ W0, ((w.alloc (.cells #[.pointer none, .slice none 0 0] TB)).alloc (.cells #[.int .i32 0] T4)).alloc (.cells #[.string s] 9) = W0 := ⟨_, rfl⟩
  rw [hW0] at bL bN bO2 hB0 hsz ⊢
  clear hW0 bO
  refine wpIn_rangeFunc_ownG rfl (by decide) (gf := 31) (lb := #[.pointer (some ⟨w.heap.size + 1 + 1, 0, none⟩)]) rfl trivial (enters_of Tryd.func31 (by kernel_rfl) rfl)
    (signs_stops _ (by decide) (w.heap.size + 1 + 1) s (by omega) _ bN encR encR_eq) kpB_t (kpB_b (by omega)) (Below.refl _ _) (fun _ => rfl)
    (CI w.heap.size s w)
    (fun _ _ _ => False)
    (ci_own _ _ _ _ (Nat.le_refl _) (by omega))
    (fun _ _ _ _ _ hs _ _ => hs)
    ⟨⟨⟨bO2, bL⟩, bN⟩, hB0⟩
    (fun x => { tmps := #[.string s, undef, .string ⟨#[]⟩, .pointer (some ⟨w.heap.size, 0, none⟩), .pointer (some ⟨w.heap.size + 1, 0, none⟩), undef, .int .i32 (rr x), .string s, .func (.func 31) #[] #[.pointer (some ⟨w.heap.size + 1 + 1, 0, none⟩)], .int .i64 x.1, .int .i32 (rr x), undef, undef, undef, undef, undef, undef, undef, undef, undef, undef, undef, undef, undef, undef, undef, undef, undef, undef, undef, undef, undef], defers := [] }) ?assign ?body ?done ?stop
  case assign =>
    intro l x W K hK
    dsimp only [encR]
    gi_wp2
    exact hK
  case body =>
    rintro l pre x W hI hlt
    have HI := Lib.hid hI
    obtain ⟨⟨⟨hbd, hbl⟩, hbs⟩, hB⟩ := hI
    obtain ⟨hr0, hr1⟩ := rr_range x
    have hc := hbl.cell
    have hsz1 := hB.size
    have hlen : (Lib.byteCells (bytesOfSigns (clean 0 (pre.map rr)))).length + 4 ≤ 140737488355328 := by
      have h1 := bytesOfSigns_le (clean 0 (pre.map rr))
      have h2 := clean_len (pre.map rr) 0
      rw [List.length_map] at h2
      rw [Lib.byteCells_length]
      omega
    obtain ⟨last, hlast⟩ : ∃ last, (pre.map rr).getLastD 0 = last := ⟨_, rfl⟩
    obtain ⟨r, hr⟩ : ∃ r, rr x = r := ⟨_, rfl⟩
    obtain ⟨bs, hbs0⟩ : ∃ bs, Lib.byteCells (bytesOfSigns (clean 0 (pre.map rr))) = bs := ⟨_, rfl⟩
    have fin : ∀ (ys : List Value) (W1 : World), Lib.IsBuilderF TB T8 w.heap.size w.heap.size ys W1 → Below w.heap.size W W1 → Lib.OthersKept T8 (some w.heap.size) W W1 → ys = bs ++ Lib.byteCells (bytesOfSigns (cl last r)) →
        KeepsFrom (w.heap.size + 3) W (W1.setCell ⟨w.heap.size + 1, 0, none⟩ (.int .i32 r)) ∧ KpB (w.heap.size + 2) W (W1.setCell ⟨w.heap.size + 1, 0, none⟩ (.int .i32 r)) ∧ CI w.heap.size s w (pre ++ [x]) (W1.setCell ⟨w.heap.size + 1, 0, none⟩ (.int .i32 r)) := fun ys W1 a b c d => by
      rw [← hbs0, ← hlast, ← hr] at d
      rw [← hr]
      exact ci_step HI.out a b c d
    have FIN := Lib.hid fin
    rw [hbs0] at hbd hlen
    rw [hlast] at hc hbl
    rw [hr] at hr0 hr1 ⊢
    clear fin hr hlast hbs0 HI
    have bx : ∀ W1, Lib.OthersKept T8 (some w.heap.size) W W1 → W1.cell? ⟨w.heap.size + 1, 0, none⟩ = some (.int .i32 last) ∧ W1.frozen? ⟨w.heap.size + 1, 0, none⟩ = false := fun W1 hk => ⟨(boxed_others hbl hk (by omega) (by decide)).cell, (boxed_others hbl hk (by omega) (by decide)).frozen⟩
    have hf := hbl.frozen
    have BX := Lib.hid bx
    clear bx
    have hb3 := hsz
    by_cases e0 : r = 0
    · subst e0
      gi_wp2_with (refine ⟨trivial, ?_⟩; gi_at_call 34; refine (CallsIn.inRound l (callsIn_wide.2 (writeRune _ _ bs 65533 (by omega) (by omega) _ hbd hlen hsz1))).mono ?_; rintro e W1 ⟨rfl, h1, hb1, hk1⟩; obtain ⟨hc1, hf1⟩ := BX.out W1 hk1)
      rw [show W0.heap.size = w.heap.size + 3 from hsz]
      exact FIN.out _ _ (builder_mono h1) hb1 hk1 (by rw [cl_zero, bytes_one])
    by_cases e1 : r = 13
    · subst e1
      gi_wp2_with (refine ⟨trivial, ?_⟩; gi_at_call 35; refine (CallsIn.inRound l (callsIn_wide.2 (writeByte _ _ bs 10 _ hbd (by omega) hsz1))).mono ?_; rintro e W1 ⟨rfl, h1, hb1, hk1⟩; obtain ⟨hc1, hf1⟩ := BX.out W1 hk1)
      rw [show W0.heap.size = w.heap.size + 3 from hsz]
      exact FIN.out _ _ (builder_mono h1) hb1 hk1 (by rw [cl_cr, bytes_one, cells_nl])
    by_cases e2 : r = 10
    · subst e2
      by_cases e3 : last = 13
      · subst e3
        gi_wp2
        rw [show W0.heap.size = w.heap.size + 3 from hsz]
        exact FIN.out bs _ hbd (Below.refl _ _) (Lib.OthersKept.refl _ _ _) (by rw [cl_no]; simp [bytesOfSigns, Lib.byteCells])
      · gi_wp2_with (refine ⟨trivial, ?_⟩; gi_at_call 35; refine (CallsIn.inRound l (callsIn_wide.2 (writeByte _ _ bs 10 _ hbd (by omega) hsz1))).mono ?_; rintro e W1 ⟨rfl, h1, hb1, hk1⟩; obtain ⟨hc1, hf1⟩ := BX.out W1 hk1)
        rw [show W0.heap.size = w.heap.size + 3 from hsz]
        exact FIN.out _ _ (builder_mono h1) hb1 hk1 (by rw [cl_nl e3, bytes_one, cells_nl])
    · gi_wp2_with (refine ⟨trivial, ?_⟩; gi_at_call 34; refine (CallsIn.inRound l (callsIn_wide.2 (writeRune _ _ bs r (by omega) (by omega) _ hbd hlen hsz1))).mono ?_; rintro e W1 ⟨rfl, h1, hb1, hk1⟩; obtain ⟨hc1, hf1⟩ := BX.out W1 hk1)
      rw [show W0.heap.size = w.heap.size + 3 from hsz]
      exact FIN.out _ _ (builder_mono h1) hb1 hk1 (by rw [cl_else e0 e1 e2, bytes_one])
  case done =>
    rintro D ys W hD rfl ⟨⟨⟨hbd, _⟩, _⟩, hB⟩ hK
    have hsz1 := hB.size
    rw [sigs_rr] at hbd
    gi_wp2_with (refine ⟨trivial, ?_⟩; gi_at_call 21; refine (callsIn_wide.2 (Tryd.Builder_String_any_k w.heap.size w.heap.size _ _ hbd hsz1)).mono ?_; rintro e W1 ⟨rfl, _, hb1, hk1⟩)
    have hK1 := hk1 D _ hK (by simp; omega) (fun _ _ e => by cases e)
    refine ⟨by simp, .inl ⟨_, _, rfl, run_takeDeferred hK1, ?_⟩⟩
    exact ⟨_, results_tmp rfl _ _ _, rfl, (hB.trans hb1).trans (belowK_b (w := w) (Nat.le_refl _) W1 D _ _ (by omega) hK1 rfl rfl)⟩
  case stop =>
    rintro D c pre W _ _ h _
    exact h.elim
end Go.Proofs.YtjlgbakdnenjhaaDoor.Sg
