/-
  What is proved here: the program's check of one statement, with no bound on the blocks of its arguments.
-/
import Derived.Test.YtplcmbipeanjdaaPrV
namespace Go.Proofs.Ytplcmbipeanjdaa
set_option linter.unusedVariables false
set_option linter.unusedSimpArgs false
set_option linter.unnecessarySimpa false
open Go.RowKit

theorem StmtValid_retS (tv : Value) (tl : List Int) (F : List Nat) (op x y n : Int) (t e : Ss) (Ft Fe : List Nat) (vt ve : Value) (w : World) (ht : IntF w tv tl F) (hT : StS w vt t Ft) (hE : StS w ve e Fe) :
    Ret Try.prog 27 [tv, stV op x y n vt ve] w fun v w' => v = .bool (stmtValidB tl op x y n t e) ∧ Ext w w' := by
  obtain ⟨F1, h1, g1⟩ := ht.small
  obtain ⟨F2, h2, g2⟩ := hT.small
  obtain ⟨F3, h3, g3⟩ := hE.small
  exact StmtValid_ret tv tl F1 op x y n t e F2 F3 vt ve w h1 h2 h3 g1 g2 g3
end Go.Proofs.Ytplcmbipeanjdaa
