/-
  What is proved here: the program's writer and the reference's writer of programs return the same text.
-/
import Derived.Test.YteonnoijdnjpdaaDoorFmt
import Derived.Test.YteonnoijdnjpdaaDoorPrV
namespace Go.Proofs.YteonnoijdnjpdaaDoor
set_option linter.unusedVariables false
set_option linter.unusedSimpArgs false
set_option linter.unnecessarySimpa false
open Go.RowKit

/-- The text of a program: empty if it is not valid. -/
def fmtT (tl : List Int) (l : Ss) : Tx := if validP tl l = true then progT tl l else []
theorem fmtT_of {tl : List Int} {l : Ss} (h : validP tl l = true) : fmtT tl l = progT tl l := if_pos h
theorem progT_ne (tl : List Int) (l : Ss) : progT tl l ≠ [] := by unfold progT; simp
theorem FormatProgram_ret (tv bv : Value) (tl : List Int) (l : Ss) (F F2 : List Nat) (w : World) (ht : IntF w tv tl F) (hb : StS w bv l F2) : Ret Tryd.prog 9 [prV tv bv] w fun v w' => v = sV (fmtT tl l) ∧ Ext w w' := by
  refine enter Tryd.func9 rfl Tryd.ntmps9 rfl rfl ?_
  refine Z43 (Z44 (WO_box rfl fun w1 hs he1 hz1 => ?_))
  replace hs : Blk w1 w.heap.size [tv, bv] _ := hs
  refine goS ?_
  refine WO_loadSB rfl hs rfl ?_
  refine WO_call rfl (ProgramValid_ret tv bv tl l F F2 w1 (ht.ext he1) (hb.ext he1)) ?_
  rintro _ w2 ⟨rfl, e2⟩
  replace hs := hs.ext e2
  unfold fmtT
  cases hv : validP tl l
  · refine goS ?_
    exact at_ret1 rfl rfl ⟨rfl, he1.trans e2⟩
  · refine goS ?_
    refine WO_loadSB rfl hs rfl ?_
    refine WO_call rfl (programText_ret tv bv tl l F F2 w2 (ht.ext (he1.trans e2)) (hb.ext (he1.trans e2)) hv) ?_
    rintro _ w3 ⟨rfl, e3⟩
    refine goS ?_
    exact at_ret1 rfl rfl ⟨rfl, (he1.trans e2).trans e3⟩
theorem sFormatProgram_ret (tv bv : Value) (tl : List Int) (l : Ss) (F F2 : List Nat) (w : World) (ht : IntF w tv tl F) (hb : StS w bv l F2) (hn : cntL l ≤ 1073741824) : Ret Tryd.prog 7 [prV tv bv] w fun v w' => v = sV (fmtT tl l) ∧ Ext w w' := by
  refine enter Tryd.func7 rfl Tryd.ntmps7 rfl rfl ?_
  refine Z43 (Z44 (WO_box rfl fun w1 hs he1 hz1 => ?_))
  replace hs : Blk w1 w.heap.size [tv, bv] _ := hs
  refine goS ?_
  refine WO_loadSB rfl hs rfl ?_
  refine WO_call rfl (sProgramValid_ret tv bv tl l F F2 w1 (ht.ext he1) (hb.ext he1) hn) ?_
  rintro _ w2 ⟨rfl, e2⟩
  replace hs := hs.ext e2
  unfold fmtT
  cases hv : validP tl l
  · refine goS ?_
    exact at_ret1 rfl rfl ⟨rfl, he1.trans e2⟩
  · refine goS ?_
    refine WO_loadSB rfl hs rfl ?_
    refine WO_call rfl (l1Program_ret tv bv tl l F F2 w2 (ht.ext (he1.trans e2)) (hb.ext (he1.trans e2)) hv) ?_
    rintro _ w3 ⟨rfl, e3⟩
    refine goS ?_
    exact at_ret1 rfl rfl ⟨rfl, (he1.trans e2).trans e3⟩
end Go.Proofs.YteonnoijdnjpdaaDoor
