/- What a row's listed variables give the readers of texts: the table, the two errors; the powers of ten. -/
import Derived.Test.YtckcngmbbnilnaaDoorLaidKit
import Derived.Test.YtckcngmbbnilnaaDoorReadN
set_option linter.unusedVariables false
set_option linter.unusedSimpArgs false
namespace Go.Proofs.YtckcngmbbnilnaaDoor
open Go.ChangeShapes Go.WideShapes Go.ChangeAt Go.RowKit

theorem star_es : "*" ++ "errors.errorString" = "*errors.errorString" := by decide
theorem row_es : ∀ u, Tryd.prog.typeName? 3 u = some "*errors.errorString" → u = 153 := fun u h =>
  typeName_ptr_named (nm := "errors.errorString") (by rw [star_es]; kernel_rfl) (by kernel_rfl) (by decide) u (by rw [star_es]; exact h)
theorem es_cell {W : World} {rest : List (String × DataW Unit)} (h : laidMet Tryd.prog (("strconv.ErrSyntax", Rows.laid_strconv_ErrSyntax) :: rest) W) : ∃ tp p, W.cell? ⟨2, 0, none⟩ = some (.iface tp p) := by
  obtain ⟨a0, s0, hv0, -, -, -⟩ := laid_sentinel (g := 2) (ti := 75) (tp := 153) (te := 155) (ts := 9) h (by kernel_rfl) (by kernel_rfl) Tryd.underlying75 row_es Tryd.underlying153 Tryd.underlying155 rfl rfl Tryd.underlying9 (by kernel_rfl) (by kernel_rfl)
  have h0 := World.var?_cell (g := 2) (by kernel_rfl) hv0 0
  exact ⟨_, _, by simpa using h0⟩
theorem er_cell {W : World} {rest : List (String × DataW Unit)} (h : laidMet Tryd.prog (("strconv.ErrRange", Rows.laid_strconv_ErrRange) :: rest) W) : ∃ tp p, W.cell? ⟨3, 0, none⟩ = some (.iface tp p) := by
  obtain ⟨a0, s0, hv0, -, -, -⟩ := laid_sentinel (g := 3) (ti := 75) (tp := 153) (te := 155) (ts := 9) h (by kernel_rfl) (by kernel_rfl) Tryd.underlying75 row_es Tryd.underlying153 Tryd.underlying155 rfl rfl Tryd.underlying9 (by kernel_rfl) (by kernel_rfl)
  have h0 := World.var?_cell (g := 3) (by kernel_rfl) hv0 0
  exact ⟨_, _, by simpa using h0⟩
theorem pow10_tab {W : World} {rest : List (String × DataW Unit)} (h : laidMet Tryd.prog (("internal/strconv.uint64pow10", Rows.laid_internal_strconv_uint64pow10) :: rest) W) : Lib.TabIs Tryd.prog W "internal/strconv.uint64pow10" .u64 Lib.pow10Tab :=
  Lib.tabIs_of_head (g := 1) (t := 137) (e := 54) (n := 20) (rest := rest) (by kernel_rfl) (by kernel_rfl) (by kernel_rfl) (by kernel_rfl) (by kernel_rfl) (by kernel_rfl) h
end Go.Proofs.YtckcngmbbnilnaaDoor
