/- The plain law behind WalkSelects: the stack brings a node and all below it in the reference's order. -/
import Derived.Test.YthjnallbbhnndaaDoorG3
import Derived.Test.YthjnallbbhnndaaDoorRows
import Derived.Test.YthjnallbbhnndaaDoorChecked
import Derived.Lib.LaidIn
import Derived.Lib.LaidU8T
import Derived.Deep.DeepHandedRow
import Derived.Deep.DeepWitnessRowRef
namespace Go.Proofs.YthjnallbbhnndaaDoor.Pure
open Go Go.RowKit Go.Proofs.YthjnallbbhnndaaDoor.XWs Go.Proofs.YthjnallbbhnndaaDoor.Dm Go.Proofs.YthjnallbbhnndaaDoorW.PrintWords Go.Proofs.YthjnallbbhnndaaDoorW.PrintLast Go.Proofs.YthjnallbbhnndaaDoorW.PrintMore
set_option maxRecDepth 100000
theorem begunW : clerestorylaw1_walkBegun.f 2000 = some true := by decide +kernel
theorem begunK (k : Nat) (hk : 2000 ≤ k) : clerestorylaw1_walkBegun.f k = some true := by
  have := more_rounds (g := fun k => clerestorylaw1_walkBegun.f k) clerestorylaw1_walkBegun.mono 2000 (k - 2000) _ begunW
  rw [show 2000 + (k - 2000) = k by omega] at this
  exact this
theorem sameInts_l0 (l : List Int) (hl : l.length ≤ 1000000) (d : Nat) : ∀ (i k : Nat), i + d = l.length → d < k → clerestoryref1_SameInts.l0 k l l (i : Int) = some true := by
  induction d with
  | zero =>
    intro i k hi hk
    obtain ⟨k, rfl⟩ : ∃ z, k = z + 1 := ⟨k - 1, by omega⟩
    rw [clerestoryref1_SameInts.l0, if_neg (by omega)]
  | succ d ih =>
    intro i k hi hk
    obtain ⟨k, rfl⟩ : ∃ z, k = z + 1 := ⟨k - 1, by omega⟩
    rw [clerestoryref1_SameInts.l0, if_pos (by omega), if_pos (by omega), if_pos (by omega), if_pos rfl, w1 i (by omega), ih (i + 1) k (by omega) (by omega)]
theorem sameInts_self (l : List Int) (hl : l.length ≤ 1000000) (k : Nat) (hk : l.length < k) : clerestoryref1_SameInts.f k l l = some true := by
  unfold clerestoryref1_SameInts.f
  rw [if_pos rfl]
  exact sameInts_l0 l hl l.length 0 k (by omega) hk
theorem belR_sub {ns : List S43} (h : Tree ns) : ∀ (K : Nat) (T : List Int), (∀ x ∈ T, 0 ≤ x ∧ x < ns.length) → (T.flatMap (sub ns)).length ≤ K → Bk.belR ns K T = some (T.flatMap (sub ns))
  | K, [], _, _ => by cases K <;> rfl
  | 0, n :: t, hr, hl => by
    have hn := hr n (by simp)
    rw [List.flatMap_cons, sub_eq h hn.1 hn.2] at hl
    simp at hl
  | K + 1, n :: t, hr, hl => by
    have hn := hr n (by simp)
    have e : sub ns n = n :: (kidL ns n).flatMap (sub ns) := sub_eq h hn.1 hn.2
    rw [List.flatMap_cons, e, List.cons_append, ← List.flatMap_append] at hl ⊢
    rw [Bk.belR, if_pos hn, show (q00 ns n).f5 = kidL ns n from rfl, belR_sub h K _ (fun x hx => ?_) (by simp only [List.length_cons] at hl; omega)]
    · rfl
    · rcases List.mem_append.1 hx with hx | hx
      · have := h.kid n x hn.1 hn.2 hx
        exact ⟨this.1, this.2.1⟩
      · exact hr x (by simp [hx])
theorem WalkSelects : clerestorylaw1_WalkSelects.Pure := by
  intro l0 q root kind nil_ hl _ _ _
  obtain ⟨ns, hf, hmost, hS, hK⟩ := few_of_form l0 q 60 (by omega) hl
  obtain ⟨K, hKk⟩ := both_check ns q hS hK
  refine ⟨K + 10000, ?_⟩
  obtain ⟨h1, h2⟩ := hKk (K + 10000) (by omega)
  have hat : ∀ i : Int, (q00 ns i).f2.length * 32 ≤ 140737488355328 := by
    intro i
    unfold q00
    by_cases c : i.toNat < ns.length
    · have e : ns.getD i.toNat z43 = ns[i.toNat] := by simp [List.getD, c]
      rw [e]
      have hm : ns[i.toNat] ∈ l0 := by
        have hm0 : ns[i.toNat] ∈ ns := List.getElem_mem c
        unfold clerestorylaw1_few.f at hf
        split at hf
        · split at hf
          · obtain ⟨rfl, _⟩ := Prod.mk.inj (Option.some.inj hf)
            exact List.mem_of_mem_take hm0
          · cases hf
        · cases hf
      obtain ⟨_, _, h2, _, _, _⟩ := hl.2.2 _ hm
      have := h2.1
      unfold reachBytes at this
      omega
    · have e : ns.getD i.toNat z43 = z43 := by simp [List.getD, c]
      rw [e]
      simp [z43]
  have hs0 : clerestoryref1_SameInts.f (K + 10000) [] [] = some true := sameInts_self [] (by simp) _ (by simp)
  unfold clerestorylaw1_WalkSelects.f
  rw [hf, Option.bind_some, h2, Option.bind_some]
  unfold walk_check.f
  rw [h1, Option.bind_some]
  by_cases z : docE ns = 0
  · have ht := tree_of z
    rw [z, if_pos rfl, if_neg (show ¬ walk_check.outR ns [] = true by simp [walk_check.outR]), show walk_check.offR (K + 10000) ns q [] = some 0 from rfl, Option.bind_some, begunK _ (by omega), Option.bind_some, if_pos ⟨rfl, rfl⟩]
    by_cases c : (root < 0 ∨ root ≥ ns.length) ∨ nil_ = true
    · rw [if_pos (.inr c), hs0, Option.bind_some, if_pos rfl]
    · rw [if_neg (fun h => h.elim (fun h => h rfl) c)]
      have r0 : 0 ≤ root := by
        have := fun h => c (.inl (.inl h))
        omega
      have r1 : root < (ns.length : Int) := by
        have := fun h => c (.inl (.inr h))
        omega
      have hsub := belR_sub ht 1000 [root] (fun x hx => by obtain rfl := List.mem_singleton.1 hx; exact ⟨r0, r1⟩) (by
        rw [List.flatMap_cons, List.flatMap_nil, List.append_nil]
        have := sub_few ht r0 r1
        omega)
      rw [List.flatMap_cons, List.flatMap_nil, List.append_nil] at hsub
      have hcl : (sub ns root).all (clOk ns) = true := List.all_eq_true.2 fun x _ => by
        unfold clOk
        rw [Bool.and_eq_true, decide_eq_true_eq, decide_eq_true_eq]
        exact ⟨hat x, by have h9 : (q00 ns x).f5.length ≤ 17592186044416 := hK x; omega⟩
      have hle : (Bk.ofKind ns kind (sub ns root)).length ≤ 60 := by
        have e1 := Bk.ofKind_len ns kind (sub ns root)
        have e2 := sub_few ht r0 r1
        omega
      rw [hsub, Option.bind_some, below_all ht q root r0 r1 _ (by omega), Option.bind_some, if_pos ⟨rfl, hcl⟩]
      rw [show clerestoryref1_SameInts.f (K + 10000) (Bk.ofKind (ns, q).fst kind (sub ns root)) (Bk.ofKind (ns, q).fst kind (sub ns root)) = some true from sameInts_self (Bk.ofKind ns kind (sub ns root)) (by omega) _ (by omega), Option.bind_some, if_pos rfl]
  · rw [if_neg z, Option.bind_some, begunK _ (by omega), Option.bind_some, if_pos ⟨rfl, rfl⟩, if_pos (.inl z), hs0, Option.bind_some, if_pos rfl]
end Go.Proofs.YthjnallbbhnndaaDoor.Pure
namespace Go.Proofs.YthjnallbbhnndaaDoor
open Go Go.Shelf Go.ChangeShapes Go.WideShapes Go.ChangeAt Go.RowKit Go.Lib
def lay2 : List (String × DataW Unit) := [("unicode/utf8.acceptRanges", Rows.laid_unicode_utf8_acceptRanges), ("unicode/utf8.first", Rows.laid_unicode_utf8_first)]
noncomputable def laidWorld (os : Os) : World :=
  let w0 := World.holding Tryd.prog os ⟨#[], #[], []⟩
  let put (h : Array Obj) (g : Nat) (cs : Array Value) : Array Obj := h.modify g fun
    | .cells _ t frozen => .cells cs t frozen
    | o => o
  let h1 := put w0.heap 1 (Lib.firstTab.map fun z => Value.int .u8 z).toArray
  let h2 := put h1 2 ((List.range 16).flatMap fun i => [Value.int .u8 (Lib.accLo i), Value.int .u8 (Lib.accHi i)]).toArray
  { w0 with heap := h2 }
theorem laid_met (os : Os) (args : Array Value) : laidMet Tryd.prog lay2 ((laidWorld os).forCall (fun _ _ => 0) ⟨#[], args, []⟩).memory :=
  (LaidIn.of_run (l := lay2) [2, 1] 8 (by kernel_rfl) (by kernel_rfl) (by kernel_rfl) (by kernel_rfl)).met
theorem own_ : ownKnob Tryd.prog.godebug = none := by kernel_rfl
theorem laidOut_ : laidOutB Tryd.prog = true := by kernel_rfl
end Go.Proofs.YthjnallbbhnndaaDoor
