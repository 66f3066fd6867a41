/- What the form knows of the arguments of ActiveAsks, and its plain statement: no Go, no memory in it. -/
import Derived.Test.YthecjfkafpndoaaRead
import Derived.Test.YthecjfkafpndoaaXAc11
import Derived.KernelRfl
namespace Go.Proofs.Ythecjfkafpndoaa.XAc
open Go.Proofs.Ythecjfkafpndoaa.Short Go.RowKit Go.Proofs.YthecjfkafpndoaaW.PrintWords Go.Proofs.YthecjfkafpndoaaW.PrintLast Go.Proofs.Ythecjfkafpndoaa
def ok99 (x_ : S99) : Prop := (fun x_ : ByteArray => x_.size ≤ reachBytes) x_.f0 ∧ (fun x_ : ByteArray => x_.size ≤ reachBytes) x_.f1
theorem rd99 : Rd.Reads Try.prog 99 k99 ok99 :=
  ((Rd.reads_struct Try.underlying99 (by kernel_rfl) (Rd.readsF_cons rfl (Rd.reads_string Try.underlying9 (by kernel_rfl)) (Rd.readsF_one rfl (Rd.reads_string Try.underlying9 (by kernel_rfl))))).iso (fun x : S99 => (x.f0, x.f1)) (fun p_ => ⟨p_.1, p_.2⟩) (fun _ => rfl)).imp (fun _ h_ => h_)
def ok25 (x_ : S25) : Prop := (fun x_ : Int => (Lit.int .i64 x_).wf = true) x_.f0 ∧ (fun x_ : ByteArray => x_.size ≤ reachBytes) x_.f1 ∧ (fun l_ : List (S99) => l_.length * 32 ≤ reachBytes ∧ l_.length ≤ 9223372036854775807 ∧ ∀ a ∈ l_, ok99 a) x_.f2
theorem rd25 : Rd.Reads Try.prog 25 k25 ok25 :=
  ((Rd.reads_struct Try.underlying25 (by kernel_rfl) (Rd.readsF_cons rfl (Rd.reads_int Try.underlying3 (by kernel_rfl)) (Rd.readsF_cons rfl (Rd.reads_string Try.underlying9 (by kernel_rfl)) (Rd.readsF_one rfl (show Rd.Reads Try.prog 23 (Kd.slice 99 k99) (fun l_ : List (S99) => l_.length * 32 ≤ reachBytes ∧ l_.length ≤ 9223372036854775807 ∧ ∀ a ∈ l_, ok99 a) from (Rd.reads_slice Try.underlying23 (by kernel_rfl) rd99).imp (fun l_ h_ => ⟨(show Try.prog.bytesOf 99 = 32 from by kernel_rfl) ▸ h_.1, h_.2⟩)))))).iso (fun x : S25 => (x.f0, x.f1, x.f2)) (fun p_ => ⟨p_.1, p_.2.1, p_.2.2⟩) (fun _ => rfl)).imp (fun _ h_ => h_)
/-- THE ONE PURE STATEMENT of clerestorylaw1_ActiveAsks. -/
def clerestorylaw1_ActiveAsks.Pure : Prop := ∀ (l0 : List (S25)) (a1 : ByteArray) (l2 : List Int), (fun l_ : List (S25) => l_.length * 48 ≤ reachBytes ∧ l_.length ≤ 9223372036854775807 ∧ ∀ a ∈ l_, ok25 a) l0 → (fun x_ : ByteArray => x_.size ≤ reachBytes) a1 → (fun l_ : List Int => l_.length * 8 ≤ reachBytes ∧ l_.length ≤ 9223372036854775807 ∧ ∀ a ∈ l_, (fun x_ : Int => (Lit.int .i64 x_).wf = true) a) l2 → ∃ k, clerestorylaw1_ActiveAsks.f k l0 a1 l2 = some true
end Go.Proofs.Ythecjfkafpndoaa.XAc
