/- What the texts of this seat lean on: the library's variable MaxLen holds some number, and the two tables of unicode/utf8 lie as the row lists them; that it stays, and that the row's form hands it on. -/
import Derived.Test.YtjlgbakdnenjhaaDoorProg
import Derived.Test.YtjlgbakdnenjhaaDoorShelf
import Derived.Test.YtjlgbakdnenjhaaDoorTabs
import Derived.Test.YtjlgbakdnenjhaaDoorWWords
namespace Go.Proofs.YtjlgbakdnenjhaaDoor
open Go.RowKit Go.Lib Go.Shelf Go.Proofs.YtjlgbakdnenjhaaDoorW.PrintWords
/-- MaxLen holds some number; the two tables lie. -/
def Sh (w : World) : Prop := (∃ m, w.cell? ⟨2, 0, none⟩ = some (.int .i64 m)) ∧ Lib.Utf8Tabs 0 1 w
theorem Sh.below {w w' : World} (h : Sh w) (hb : Below w.heap.size w w') : Sh w' := by
  obtain ⟨⟨m, hm⟩, h1, h2⟩ := h
  exact ⟨⟨m, pw_cell_below hb hm⟩, fun c hc => pw_cell_below hb (h1 c hc), fun i hi => ⟨pw_cell_below hb (h2 i hi).1, pw_cell_below hb (h2 i hi).2⟩⟩
/-- What the row's form hands on. -/
theorem Sh.of {w : World} (h : w.ShapedOpen Tryd.prog) (hL : laidMetH Tryd.prog lay2 w) : Sh w := by
  refine ⟨Tryd.laysM143.s1_3 w h, ?_⟩
  exact utf8Tabs_of_readsT (U8Types.of196 Tryd.laysValid) ⟨by kernel_rfl, by kernel_rfl, by kernel_rfl, by kernel_rfl, by kernel_rfl, by kernel_rfl, by kernel_rfl⟩
    (show VarReads Tryd.prog w "unicode/utf8.first" Lib.firstData from (show Rows.laid_unicode_utf8_first = Lib.firstData by kernel_rfl) ▸ Lib.laidMet.reads hL (.tail _ (.head _)))
    (show VarReads Tryd.prog w "unicode/utf8.acceptRanges" Lib.acceptData from (show Rows.laid_unicode_utf8_acceptRanges = Lib.acceptData by kernel_rfl) ▸ Lib.laidMet.reads hL (.head _))
end Go.Proofs.YtjlgbakdnenjhaaDoor
