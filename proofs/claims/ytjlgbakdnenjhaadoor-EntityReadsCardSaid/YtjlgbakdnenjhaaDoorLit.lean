/- A slice literal of many rows: what the block holds is one closed fact. -/
import Derived.Test.YtjlgbakdnenjhaaDoorProg
import Derived.Great.Walk
namespace Go.Proofs.YtjlgbakdnenjhaaDoor.Lit
open Go
theorem run_lit {P : Program} {o : Oper} {a : Act} {W : World} {t e : TypeId} {len : Nat} {parts : Array (Nat × Operand)} {cells : Array Value} (ho : o.op = .buildSlice t len parts) (hu : P.underlying t = some (.slice e))
    (hf : P.builtSlice e len (parts.map fun (i, x) => (i, a.eval x)).toList = some cells) : (execOp a.eval o).run P W = .ok (.value (.slice (some ⟨W.heap.size, 0, none⟩) len len)) (W.alloc (.cells cells e)) := by
  unfold Program.builtSlice at hf
  cases hie : P.info? e with
  | none => simp [hie] at hf
  | some ie =>
    simp only [hie] at hf
    cases hz : ie.zero with
    | none => simp [hz] at hf
    | some z =>
      simp only [hz] at hf
      by_cases hc : len * ie.size > 2 ^ 24 ∨ len * ie.size = 0
      · simp [hc] at hf
      · rw [if_neg hc] at hf
        unfold execOp
        simp only [ho, Sem.run_bind, run_buildSlice W t e len _ cells ie z hu hie hz (fun h' => hc (Or.inl h')) (fun h' => hc (Or.inr h')) hf, Result.andThen_ok]
        rfl
end Go.Proofs.YtjlgbakdnenjhaaDoor.Lit
