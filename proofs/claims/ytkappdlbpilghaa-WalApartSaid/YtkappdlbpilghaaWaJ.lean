/- The reference's Scan. -/
import Derived.Test.YtkappdlbpilghaaWaI
set_option linter.unusedVariables false
set_option linter.unusedSimpArgs false
namespace Go.Proofs.Ytkappdlbpilghaa
open Go.SL
/-- records: their values and their bytes -/
abbrev Recs := List (Value × List Int)
def Recs.v (rs : Recs) : List Value := rs.map Prod.fst
def Recs.x (rs : Recs) : List (List Int) := rs.map Prod.snd
theorem Recs.v_snoc (rs : Recs) (u : Value) (x : List Int) : Recs.v (rs ++ [(u, x)]) = Recs.v rs ++ [u] := by simp [Recs.v]
theorem Recs.x_snoc (rs : Recs) (u : Value) (x : List Int) : Recs.x (rs ++ [(u, x)]) = Recs.x rs ++ [x] := by simp [Recs.x]
theorem Recs.x_length (rs : Recs) : (Recs.x rs).length = rs.length := by simp [Recs.x]
theorem Recs.v_length (rs : Recs) : (Recs.v rs).length = rs.length := by simp [Recs.v]
structure ScS where
  rs : Recs
  rest : List Int
  v : Value
  L : Hp
end Go.Proofs.Ytkappdlbpilghaa
