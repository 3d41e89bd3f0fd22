/- What the row lists and the world's shape say of the library's two variables: what the walks of layer 1 ask of a world. -/
import Derived.Test.YtaneicpggglcbaaDoorRows
import Derived.Test.YtaneicpggglcbaaDoorWv
import Derived.Lib.LaidTab
import Derived.Shelf.Vars
namespace Go.Proofs.YtaneicpggglcbaaDoor.Ok
open Go.RowKit
theorem laid_tail {P : Program} {w : World} {x : String × DataW Unit} {r : List (String × DataW Unit)} {ps : List MemPlace} (h : DataW.LaidVars P w (x :: r) ps) : ∃ q, DataW.LaidVars P w r q := by
  obtain ⟨g, t, cs, fuel, p, q, _, _, _, _, h, _⟩ := h
  exact ⟨q, h⟩
theorem tab_of_laid {P : Program} {W : World} {name : String} {k : IntKind} {zs : List Int} {rest : List (String × DataW Unit)} {ps : List MemPlace} {g : Nat} {t e : TypeId} {n : Nat}
    (hg : P.globalNamed name = some g) (hty : (P.globals[g]?).map (·.type) = some t) (ht : P.underlying t = some (.array n e)) (he : P.underlying e = some (.int k)) (hce : P.cellsOf e = 1) (hct : P.cellsOf t = n)
    (h : DataW.LaidVars P W ((name, Lib.tabData k zs) :: rest) ps) : Lib.TabIs P W name k zs := by
  obtain ⟨g', t', cs, fuel, p, q, hg', ht', hvar, hd, _, _⟩ := h
  obtain rfl := Option.some.inj (hg.symm.trans hg')
  obtain rfl := Option.some.inj (hty.symm.trans ht')
  unfold Lib.TabIs
  rw [hvar, ← Lib.cells_of_tab ht he hce hct hd]
theorem max_of {W : World} (hS : W.ShapedOpen Tryd.prog) : ∃ m, W.cell? ⟨0, 0, none⟩ = some (.int .i64 m) :=
  cell_of_shapedOpen_int (t := 3) (zero := #[.int .i64 0]) hS (of_decide_eq_true (by kernel_rfl)) (by kernel_rfl) rfl (by kernel_rfl) (by kernel_rfl) Tryd.underlying3
theorem okW {W : World} (hL : laidMetH Tryd.prog Rows.valueOrdersRow.laid W) (hS : W.ShapedOpen Tryd.prog) : Wv.OkW W := by
  refine ⟨max_of hS, ?_⟩
  have h : laidMet Tryd.prog Rows.valueOrdersRow.laid W := hL
  obtain ⟨ps, h0, _⟩ := h
  obtain ⟨q1, h1⟩ := laid_tail h0
  obtain ⟨q2, h2⟩ := laid_tail h1
  exact tab_of_laid (g := 1) (t := 104) (e := 92) (n := 20) (by kernel_rfl) (by kernel_rfl) Tryd.underlying104 Tryd.underlying92 (by kernel_rfl) (by kernel_rfl) h2
end Go.Proofs.YtaneicpggglcbaaDoor.Ok
