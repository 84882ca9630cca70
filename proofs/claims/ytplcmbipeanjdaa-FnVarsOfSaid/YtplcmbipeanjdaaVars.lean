/-
  What is proved here: arrays by place and by value; which variables VarsOf of the program and of the reference collect, and VarsApart.
-/
import Derived.Test.YtplcmbipeanjdaaStLaw
import Derived.Test.YtplcmbipeanjdaaWx
import Derived.Test.YtplcmbipeanjdaaSame
namespace Go.Proofs.Ytplcmbipeanjdaa
set_option linter.unusedVariables false
set_option linter.unusedSimpArgs false
set_option linter.unnecessarySimpa false
open Go.RowKit

section
variable {P : Program} {n : Nat} {ops : Array Oper} {Q : Exit → Act → World → Prop} {rest : List Oper} {σ : Env} {w w' : World} {v u : Value}
variable {d : Nat} {ty : TypeId} {pos : String} {af : Array Edge} {x y s : Operand}
theorem TArr.run_sizeOf {t m e k : Nat} (h : TArr P t m e k) (w : World) : (sizeOf e).run P w = .ok k w ∧ (sizeOf t).run P w = .ok (m * k) w := by
  have h1 := h.size
  have h2 := h.whole
  refine ⟨?_, ?_⟩
  · cases hi : P.info? e with
    | none => simp [hi] at h1
    | some i => simp [hi] at h1; simp [sizeOf, typeInfo, hi, h1]
  · cases hi : P.info? t with
    | none => simp [hi] at h2
    | some i => simp [hi] at h2; simp [sizeOf, typeInfo, hi, h2]
/-- The place of an element of an array that is known by its place. -/
theorem q_indexArr {g : Option (Nat × Bool)} {t : TypeId} {m e k b o j : Nat} {i : Int} [TArr P t m e k] (hx : ev σ x = some (.pointer (some ⟨b, o, none⟩))) (hy : ev σ y = some (.int .i64 i)) (hj : i = (j : Int)) (hlt : j < m) :
    DoesQ P ⟨some d, .indexAddr t x y, ty, pos, af, g⟩ σ w (.pointer (some ⟨b, o + j * k, none⟩)) := ⟨fun w2 he => ⟨fun m' c hf => by
    have h2 : (j : Int) < (m : Int) := by omega
    simp [execOp, fits_ev hf hx, fits_ev hf hy, Instr.indexAt, Instr.sureAddr, asIntOf, run_underlying (TArr.und (P := P) (t := t) (n := m) (e := e) (k := k)), hj, h2, hlt, (TArr.run_sizeOf (P := P) (t := t) (m := m) (e := e) (k := k) inferInstance w2).1, add_some]⟩⟩
/-- An array is loaded whole. -/
theorem q_loadArr {g : Option (Nat × Bool)} {t : TypeId} {m e k b o : Nat} [TArr P t m e k] {cs : List Value} (hx : ev σ x = some (.pointer (some ⟨b, o, none⟩))) (hl : cs.length = m * k) (hc : ∀ j u, cs[j]? = some u → w.cell? ⟨b, o + j, none⟩ = some u) :
    DoesQ P ⟨some d, .load t x, ty, pos, af, g⟩ σ w (.agg cs.toArray) := ⟨fun w2 he => ⟨fun m' c hf => by
    have h := run_loadCells_list (P := P) w2 ⟨b, o, none⟩ cs (fun j u hu => by rw [add_some]; exact cell_ext (hc j u hu) he)
    have ha : (isAgg t).run P w2 = .ok true w2 := by simp [isAgg, run_underlying (TArr.und (P := P) (t := t) (n := m) (e := e) (k := k))]
    simp [execOp, fits_ev hf hx, Instr.loadAt, Instr.sureAddr, loadVar, ha, (TArr.run_sizeOf (P := P) (t := t) (m := m) (e := e) (k := k) inferInstance w2).2, ← hl, h]⟩⟩
/-- An element of an array by value. -/
theorem q_elem {g : Option (Nat × Bool)} {t : TypeId} {m e k j : Nat} {i : Int} [TArr P t m e k] [T1 P e] {cs : List Value} (hx : ev σ x = some (.agg cs.toArray)) (hy : ev σ y = some (.int .i64 i)) (hj : i = (j : Int)) (hlt : j < m) (hk : k = 1) (hv : cs[j]? = some v) :
    DoesQ P ⟨some d, .index t x y, ty, pos, af, g⟩ σ w v := ⟨fun w2 he => ⟨fun m' c hf => by
    subst hk
    have h2 : (j : Int) < (m : Int) := by omega
    simp [execOp, fits_ev hf hx, fits_ev hf hy, Instr.index, asIntOf, run_underlying (TArr.und (P := P) (t := t) (n := m) (e := e) (k := 1)), hj, h2, hlt, (TArr.run_sizeOf (P := P) (t := t) (m := m) (e := e) (k := 1) inferInstance w2).1, part, T1.run_isAgg (t := e) inferInstance, hv]⟩⟩
/-- A call whose result is thrown away by what follows. -/
theorem at_endT {fn : Func} {Post : Value → World → Prop} (hr : fn.results = #[]) (h : Post (.tuple #[]) w) : AtQ n (bodyPost P fn fun e w' => ∃ v, e = .returned v ∧ Post v w') .normal σ w := at_end0 hr h
end

/-! ### The variables of a statement -/
def mark1 (fl : List Bool) (v : Int) : List Bool := if 0 ≤ v ∧ v < 6 then fl.set v.toNat true else fl
def uses1 (fl : List Bool) (op x y : Int) : List Bool := if 3 ≤ op ∧ op ≤ 7 then mark1 (if op < 9 then mark1 fl x else fl) y else (if op < 9 then mark1 fl x else fl)
def usesL : Ss → List Bool → List Bool
  | .nil, fl => fl
  | .cons op x y _ t e r, fl => usesL r (usesL e (usesL t (uses1 fl op x y)))
theorem mark1_length (fl : List Bool) (v : Int) : (mark1 fl v).length = fl.length := by unfold mark1; split <;> simp
theorem uses1_length (fl : List Bool) (op x y : Int) : (uses1 fl op x y).length = fl.length := by
  unfold uses1
  split <;> split <;> simp [mark1_length]
theorem usesL_length : ∀ (l : Ss) (fl : List Bool), (usesL l fl).length = fl.length
  | .nil, _ => rfl
  | .cons op x y n t e r, fl => by simp [usesL, usesL_length, uses1_length]
def usesS (fl : List Bool) (op x y : Int) (t e : Ss) : List Bool := usesL e (usesL t (uses1 fl op x y))
theorem usesS_length (fl : List Bool) (op x y : Int) (t e : Ss) : (usesS fl op x y t e).length = fl.length := by simp [usesS, usesL_length, uses1_length]
def truesTo (fl : List Bool) : Nat → List Int
  | 0 => []
  | i + 1 => truesTo fl i ++ (if fl[i]? = some true then [(i : Int)] else [])
theorem truesTo_length (fl : List Bool) : ∀ i, (truesTo fl i).length ≤ i
  | 0 => Nat.le_refl _
  | i + 1 => by
    have := truesTo_length fl i
    unfold truesTo
    split <;> simp <;> omega
def noVars : List Bool := [false, false, false, false, false, false]
def varsL (op x y : Int) (t e : Ss) : List Int := truesTo (usesS noVars op x y t e) 6
theorem mark1_in {fl : List Bool} {v : Int} {i : Nat} (hv : v = i) (hi : i < 6) : mark1 fl v = fl.set i true := by
  unfold mark1
  rw [if_pos (by omega), hv]
  rfl
theorem mark1_out {fl : List Bool} {v : Int} (h : ¬ (0 ≤ v ∧ v < 6)) : mark1 fl v = fl := by
  unfold mark1
  rw [if_neg h]
theorem map_set_bool (fl : List Bool) (i : Nat) : (fl.map Value.bool).set i (.bool true) = (fl.set i true).map .bool := by rw [List.map_set]
theorem vars1_ret (v : Int) (pb ab : Nat) (tp ta : TypeId) (fl : List Bool) (w : World) (hp : Blk w pb [.pointer (some ⟨ab, 0, none⟩)] tp) (ha : Blk w ab (fl.map .bool) ta) (hl : fl.length = 6) :
    Ret Try.prog 76 [.int .i64 v, .pointer (some ⟨pb, 0, none⟩)] w fun r w' => r = .tuple #[] ∧ Blk w' ab ((mark1 fl v).map .bool) ta ∧ Chg [ab] w w' := by
  refine enter Try.func76 rfl Try.ntmps76 rfl rfl ?_
  refine goS ?_
  refine WO_call rfl (within_ret v 0 5 w) ?_
  rintro _ w ⟨rfl, rfl⟩
  by_cases hv : 0 ≤ v ∧ v ≤ 5
  · rw [decide_eq_true hv]
    obtain ⟨i, rfl⟩ := Int.eq_ofNat_of_zero_le hv.1
    refine goS ?_
    refine Z13 (q_indexArr (j := i) rfl rfl rfl (by omega)) ?_
    refine WO_store1 rfl rfl rfl ha (by simp; omega) fun w1 ha1 o1 => ?_
    rw [Nat.zero_add, Nat.mul_one, map_set_bool] at ha1
    have hm := mark1_in (fl := fl) (v := (i : Int)) (i := i) rfl (by omega)
    refine goS ?_
    first
      | exact at_end0 rfl ⟨rfl, by rw [hm]; exact ha1, o1.chg⟩
      | exact at_ret0 rfl ⟨rfl, by rw [hm]; exact ha1, o1.chg⟩
  · rw [decide_eq_false hv]
    have hm := mark1_out (fl := fl) (v := v) (by omega)
    refine goS ?_
    first
      | exact at_end0 rfl ⟨rfl, by rw [hm]; exact ha, Chg.refl _ _⟩
      | exact at_ret0 rfl ⟨rfl, by rw [hm]; exact ha, Chg.refl _ _⟩
def VsP (op x y n : Int) (t e : Ss) : Prop := ∀ (vt ve : Value) (Ft Fe : List Nat) (ab : Nat) (ta : TypeId) (fl : List Bool) (w0 w : World), StS w0 vt t Ft → StS w0 ve e Fe → Ext w0 w → w0.heap.size ≤ ab → Blk w ab (fl.map .bool) ta → fl.length = 6 →
  Ret Try.prog 58 [stV op x y n vt ve, .pointer (some ⟨ab, 0, none⟩)] w fun r w' => r = .tuple #[] ∧ Blk w' ab ((usesS fl op x y t e).map .bool) ta ∧ Chg [ab] w w'
theorem vars_all : ∀ (k : Nat) (op x y n : Int) (t e : Ss), cntL t + cntL e ≤ k → VsP op x y n t e := by
  intro k
  induction k using Nat.strongRecOn with
  | _ k ihk =>
    intro op x y n t e hk vt ve Ft Fe ab ta fl w0 w hT hE h0 hab ha hfl
    have hlt := ha.lt
    refine enter Try.func58 rfl Try.ntmps58 rfl rfl ?_
    refine Z43 (Z44 (WO_box rfl fun w1 hs e1 z1 => WO_box rfl fun w2 hp e2 z2 => ?_))
    replace hs : Blk w2 w.heap.size [.int .i64 op, .int .i64 x, .int .i64 y, .int .i64 n, vt, ve] _ := Blk.ext hs e2
    replace hp : Blk w2 w1.heap.size [.pointer (some ⟨ab, 0, none⟩)] _ := hp
    have e12 := e1.trans e2
    replace ha := ha.ext e12
    have s1 := e1.size_le
    have K : ∀ w', Chg [ab] w2 w' → Blk w' w.heap.size [.int .i64 op, .int .i64 x, .int .i64 y, .int .i64 n, vt, ve] 38 ∧ Blk w' w1.heap.size [.pointer (some ⟨ab, 0, none⟩)] 68 := fun w' h => ⟨hs.chg h (by simp; omega), hp.chg h (by simp; omega)⟩
    have X : ∀ w', Chg [ab] w2 w' → Ext w0 w' := fun w' h => h.ext_of (h0.trans e12) (by simpa using hab)
    refine goS ?_
    refine Z13 (q_makeFunc rfl rfl) ?_
    refine goS ?_
    refine W_cut [(2, .pointer (some ⟨w.heap.size, 0, none⟩)), (3, .pointer (some ⟨w1.heap.size, 0, none⟩)), (4, .func (.func 76) #[] #[.pointer (some ⟨w1.heap.size, 0, none⟩)])] (fun w' => Blk w' ab ((if op < 9 then mark1 fl x else fl).map .bool) ta ∧ Chg [ab] w2 w') ?_ (fun w3 hR => ?_)
    · refine Z52 rfl (fun hc => ?_) (fun hc => ?_)
      · simp only [decide_eq_true_eq] at hc
        refine goS ?_
        refine WO_callV (first := []) (captured := [.pointer (some ⟨w1.heap.size, 0, none⟩)]) rfl rfl (vars1_ret x w1.heap.size ab _ ta fl w2 hp ha hfl) ?_
        rintro _ w3 ⟨rfl, ha3, c3⟩
        refine goS ?_
        exact at_meets (by repeat (first | exact True.intro | refine And.intro rfl ?_)) ⟨by rw [if_pos hc]; exact ha3, c3⟩
      · simp only [decide_eq_false_iff_not] at hc
        refine goS ?_
        exact at_meets (by repeat (first | exact True.intro | refine And.intro rfl ?_)) ⟨by rw [if_neg hc]; exact ha, Chg.refl _ _⟩
    obtain ⟨ha, hch⟩ := hR
    obtain ⟨hs3, hp3⟩ := K w3 hch
    have hfl3 : (if op < 9 then mark1 fl x else fl).length = 6 := by split <;> simp [mark1_length, hfl]
    refine goS ?_
    refine WO_call rfl (within_ret op 3 7 w3) ?_
    rintro _ w3 ⟨rfl, rfl⟩
    refine goS ?_
    refine W_cut [(2, .pointer (some ⟨w.heap.size, 0, none⟩)), (3, .pointer (some ⟨w1.heap.size, 0, none⟩))] (fun w' => Blk w' ab ((uses1 fl op x y).map .bool) ta ∧ Chg [ab] w2 w') ?_ (fun w4 hR => ?_)
    · refine Z52 rfl (fun hc => ?_) (fun hc => ?_)
      · simp only [decide_eq_true_eq] at hc
        refine goS ?_
        refine WO_callV (first := []) (captured := [.pointer (some ⟨w1.heap.size, 0, none⟩)]) rfl rfl (vars1_ret y w1.heap.size ab _ ta _ w3 hp3 ha hfl3) ?_
        rintro _ w4 ⟨rfl, ha4, c4⟩
        refine goS ?_
        exact at_meets (by repeat (first | exact True.intro | refine And.intro rfl ?_)) ⟨by unfold uses1; rw [if_pos hc]; exact ha4, hch.trans c4⟩
      · simp only [decide_eq_false_iff_not] at hc
        refine goS ?_
        exact at_meets (by repeat (first | exact True.intro | refine And.intro rfl ?_)) ⟨by unfold uses1; rw [if_neg hc]; exact ha, hch⟩
    clear ha hch hs3 hp3 hfl3
    obtain ⟨ha, hch⟩ := hR
    replace hfl : (uses1 fl op x y).length = 6 := by rw [uses1_length]; exact hfl
    obtain ⟨hs4, hp4⟩ := K w4 hch
    refine goS ?_
    obtain ⟨A, cap, rfl, hll, _⟩ := hT.slice
    have hst := restS_start hT
    unfold maxI at hll
    refine goS ?_
    refine W_loop (α := Nat × Ss × List Bool) (fun p => [(2, .pointer (some ⟨w.heap.size, 0, none⟩)), (3, .pointer (some ⟨w1.heap.size, 0, none⟩)), (25, .slice A (Ss.len t) cap), (26, .int .i64 (Ss.len t : Int)), (27, .int .i64 (p.1 : Int))])
      (fun p w' => p.1 + p.2.1.len = Ss.len t ∧ cntL p.2.1 ≤ cntL t ∧ usesL p.2.1 p.2.2 = usesL t (uses1 fl op x y) ∧ p.2.2.length = 6 ∧ RestS w0 A p.1 p.2.1 ∧ Blk w' ab (p.2.2.map .bool) ta ∧ Chg [ab] w2 w') (fun p => p.2.1.len) (0, t, uses1 fl op x y) (by repeat (first | exact True.intro | refine And.intro rfl ?_)) ⟨by simp, Nat.le_refl _, rfl, hfl, hst, ha, hch⟩ ?_
    rintro ⟨i, r, fl1⟩ w4 ⟨hi, hcl, hus, hfl, hr, ha, hch⟩
    simp only at hi hcl hus hfl hr ha ⊢
    obtain ⟨hs4, hp4⟩ := K w4 hch
    refine goS ?_
    refine Z52 rfl (fun hc => ?_) (fun hc => ?_)
    · have hlt : i < Ss.len t := by simpa using hc
      cases r with
      | nil => simp only [Ss.len] at hi; omega
      | cons op' x' y' n' t' e' r =>
        obtain ⟨b, o, vt', ve', Ft', Fe', rfl, hcells, hT', hE', hrest⟩ := restS_cons hr
        simp only [Ss.len, cntL] at hi hcl
        have hx4 := X w4 hch
        refine goS ?_
        refine Z83 rfl rfl rfl hlt ?_
        refine WO_loadS rfl rfl (fun j u hu => cell_ext (hcells j u hu) hx4) ?_
        refine WO_alloc fun w5 hb5 he5 hz5 => ?_
        refine WO_storeS rfl rfl rfl (stmt_one hT' hE' op' x' y' n') hb5 (by simp [Value.cells]) fun w6 hb6 ho6 => ?_
        replace hb6 : Blk w6 w4.heap.size [Value.int .i64 op', .int .i64 x', .int .i64 y', .int .i64 n', vt', ve'] _ := hb6
        have he6 : Ext w4 w6 := he5.only ho6 (Nat.le_refl _)
        clear hb5
        have hch6 := hch.trans (he6.chg _)
        obtain ⟨hs6, hp6⟩ := K w6 hch6
        refine goS ?_
        refine WO_loadSB rfl hb6 rfl ?_
        refine goS ?_
        refine WO_call rfl (ihk (cntL t' + cntL e') (by omega) op' x' y' n' t' e' (Nat.le_refl _) vt' ve' Ft' Fe' ab ta fl1 w0 w6 hT' hE' (hx4.trans he6) hab (ha.ext he6) hfl) ?_
        rintro _ w7 ⟨rfl, ha7, c7⟩
        refine goS ?_
        refine at_loop (i + 1, r, usesS fl1 op' x' y' t' e') (by repeat (first | exact True.intro | refine And.intro rfl ?_)) ⟨by simp only; omega, by simp only; omega, hus, by rw [usesS_length]; exact hfl, hrest, ha7, hch6.trans c7⟩ (by simp only [Ss.len]; omega)
    have hge : i = Ss.len t := by simp at hc; omega
    have hr0 : r = .nil := Ss.len_zero (by omega)
    subst hr0
    have hus : fl1 = usesL t (uses1 fl op x y) := hus
    subst hus
    · obtain ⟨hs5, hp5⟩ := K w4 hch
      refine goS ?_
      replace hfl : (usesL t (uses1 fl op x y)).length = 6 := hfl
      clear hst hr hll
      obtain ⟨A, cap, rfl, hll, _⟩ := hE.slice
      have hst := restS_start hE
      unfold maxI at hll
      refine goS ?_
      refine W_loop (α := Nat × Ss × List Bool) (fun p => [(2, .pointer (some ⟨w.heap.size, 0, none⟩)), (3, .pointer (some ⟨w1.heap.size, 0, none⟩)), (36, .slice A (Ss.len e) cap), (37, .int .i64 (Ss.len e : Int)), (38, .int .i64 (p.1 : Int))])
        (fun p w' => p.1 + p.2.1.len = Ss.len e ∧ cntL p.2.1 ≤ cntL e ∧ usesL p.2.1 p.2.2 = usesL e (usesL t (uses1 fl op x y)) ∧ p.2.2.length = 6 ∧ RestS w0 A p.1 p.2.1 ∧ Blk w' ab (p.2.2.map .bool) ta ∧ Chg [ab] w2 w') (fun p => p.2.1.len) (0, e, usesL t (uses1 fl op x y)) (by repeat (first | exact True.intro | refine And.intro rfl ?_)) ⟨by simp, Nat.le_refl _, rfl, hfl, hst, ha, hch⟩ ?_
      rintro ⟨i, r, fl1⟩ w4 ⟨hi, hcl, hus, hfl, hr, ha, hch⟩
      simp only at hi hcl hus hfl hr ha ⊢
      obtain ⟨hs4, hp4⟩ := K w4 hch
      refine goS ?_
      refine Z52 rfl (fun hc => ?_) (fun hc => ?_)
      · have hlt : i < Ss.len e := by simpa using hc
        cases r with
        | nil => simp only [Ss.len] at hi; omega
        | cons op' x' y' n' t' e' r =>
          obtain ⟨b, o, vt', ve', Ft', Fe', rfl, hcells, hT', hE', hrest⟩ := restS_cons hr
          simp only [Ss.len, cntL] at hi hcl
          have hx4 := X w4 hch
          refine goS ?_
          refine Z83 rfl rfl rfl hlt ?_
          refine WO_loadS rfl rfl (fun j u hu => cell_ext (hcells j u hu) hx4) ?_
          refine WO_alloc fun w5 hb5 he5 hz5 => ?_
          refine WO_storeS rfl rfl rfl (stmt_one hT' hE' op' x' y' n') hb5 (by simp [Value.cells]) fun w6 hb6 ho6 => ?_
          replace hb6 : Blk w6 w4.heap.size [Value.int .i64 op', .int .i64 x', .int .i64 y', .int .i64 n', vt', ve'] _ := hb6
          have he6 : Ext w4 w6 := he5.only ho6 (Nat.le_refl _)
          clear hb5
          have hch6 := hch.trans (he6.chg _)
          obtain ⟨hs6, hp6⟩ := K w6 hch6
          refine goS ?_
          refine WO_loadSB rfl hb6 rfl ?_
          refine goS ?_
          refine WO_call rfl (ihk (cntL t' + cntL e') (by omega) op' x' y' n' t' e' (Nat.le_refl _) vt' ve' Ft' Fe' ab ta fl1 w0 w6 hT' hE' (hx4.trans he6) hab (ha.ext he6) hfl) ?_
          rintro _ w7 ⟨rfl, ha7, c7⟩
          refine goS ?_
          refine at_loop (i + 1, r, usesS fl1 op' x' y' t' e') (by repeat (first | exact True.intro | refine And.intro rfl ?_)) ⟨by simp only; omega, by simp only; omega, hus, by rw [usesS_length]; exact hfl, hrest, ha7, hch6.trans c7⟩ (by simp only [Ss.len]; omega)
      have hge : i = Ss.len e := by simp at hc; omega
      have hr0 : r = .nil := Ss.len_zero (by omega)
      subst hr0
      have hus : fl1 = usesL e (usesL t (uses1 fl op x y)) := hus
      subst hus
      · refine goS ?_
        first
          | exact at_end0 rfl ⟨rfl, ha, (e12.chg _).trans hch⟩
          | exact at_ret0 rfl ⟨rfl, ha, (e12.chg _).trans hch⟩
theorem VarsOf_ret (op x y n : Int) (t e : Ss) (vt ve : Value) (Ft Fe : List Nat) (w : World) (hT : StS w vt t Ft) (hE : StS w ve e Fe) : Ret Try.prog 25 [stV op x y n vt ve] w (NewInts (varsL op x y t e) w) := by
  refine enter Try.func25 rfl Try.ntmps25 rfl rfl ?_
  refine Z43 (Z44 (WO_box rfl fun w1 hs e1 z1 => ?_))
  replace hs : Blk w1 w.heap.size [.int .i64 op, .int .i64 x, .int .i64 y, .int .i64 n, vt, ve] _ := hs
  refine goS ?_
  refine WO_alloc fun w2 ha e2 z2 => ?_
  replace ha : Blk w2 w1.heap.size (noVars.map .bool) _ := ha
  replace hs := hs.ext e2
  have s1 := e1.size_le
  refine goS ?_
  refine WO_loadSB rfl hs rfl ?_
  refine WO_call rfl (vars_all _ op x y n t e (Nat.le_refl _) vt ve Ft Fe w1.heap.size _ noVars w w2 hT hE (e1.trans e2) s1 ha rfl) ?_
  rintro _ w3 ⟨rfl, ha3, c3⟩
  have e03 : Ext w w3 := c3.ext_of (e1.trans e2) (by simpa using s1)
  have hul : (usesS noVars op x y t e).length = 6 := by rw [usesS_length]; rfl
  have hvl : varsL op x y t e = truesTo (usesS noVars op x y t e) 6 := rfl
  generalize usesS noVars op x y t e = us at ha3 hul hvl
  refine goS ?_
  refine Z13 (q_loadArr (cs := us.map .bool) rfl (by simp [hul]) (fun j u hu => by rw [Nat.zero_add]; exact ha3.cell hu)) ?_
  refine goS ?_
  refine W_loop (α := Nat × Value) (fun p => [(4, p.2), (9, .agg (us.map .bool).toArray), (10, .int .i64 (p.1 : Int))])
    (fun p w' => p.1 ≤ 6 ∧ Ext w w' ∧ w'.ownsRow w.heap.size 3 1 p.2 (truesTo us p.1).length ((truesTo us p.1).map (.int .i64))) (fun p => 6 - p.1) (0, _) (by repeat (first | exact True.intro | refine And.intro rfl ?_)) ⟨Nat.zero_le _, e03, World.ownsRow_nil _ _ _ _⟩ ?_
  rintro ⟨i, vo⟩ w4 ⟨hi, he, hown⟩
  simp only at hi he hown ⊢
  have htl := truesTo_length us i
  refine goS ?_
  refine Z52 rfl (fun hc => ?_) (fun hc => ?_)
  · have hlt : i < 6 := by simp at hc; omega
    have hget : (us.map Value.bool)[i]? = some (.bool us[i]) := by simp [hul, hlt]
    have hstep : ∀ (bl : Bool), us[i] = bl → truesTo us (i + 1) = truesTo us i ++ (if bl then [(i : Int)] else []) := fun bl hb => by
      simp only [truesTo, List.getElem?_eq_getElem (show i < us.length by omega), hb]
      cases bl <;> rfl
    refine goS ?_
    refine Z13 (q_elem (j := i) rfl rfl rfl hlt rfl hget) ?_
    cases hb : us[i]
    · have hs := hstep _ hb
      refine goS ?_
      refine at_loop (i + 1, vo) (by repeat (first | exact True.intro | refine And.intro rfl ?_)) ⟨hlt, he, ?_⟩ (by simp only; omega)
      simp only
      rw [hs]
      simpa using hown
    · have hs := hstep _ hb
      refine goS ?_
      refine WO_app1 (m := (truesTo us i).length) rfl rfl one_int rfl hown he.size rfl (by omega) (by decide) fun v' w5 hown5 hg hat => ?_
      refine goS ?_
      refine at_loop (i + 1, v') (by repeat (first | exact True.intro | refine And.intro rfl ?_)) ⟨hlt, grown_below he hown hg (Nat.le_refl _), ?_⟩ (by simp only; omega)
      simp only
      rw [hs, if_pos rfl, List.length_append, List.map_append]
      exact hown5
  · have hge : i = 6 := by simp at hc; omega
    subst hge
    rw [← hvl] at hown
    obtain ⟨F', hF, hB, _⟩ := OwnI.of_row hown rfl (by rw [hvl]; have := truesTo_length us 6; unfold maxI; omega)
    refine goS ?_
    exact at_ret1 rfl rfl ⟨⟨F', hF, hB⟩, he⟩
def UsP (op x y n : Int) (t e : Ss) : Prop := ∀ (vt ve : Value) (Ft Fe : List Nat) (ab : Nat) (ta : TypeId) (fl : List Bool) (w0 w : World), StS w0 vt t Ft → StS w0 ve e Fe → Ext w0 w → w0.heap.size ≤ ab → Blk w ab (fl.map .bool) ta → fl.length = 6 →
  Ret Try.prog 64 [.slice (some ⟨ab, 0, none⟩) 6 6, stV op x y n vt ve] w fun r w' => r = .slice (some ⟨ab, 0, none⟩) 6 6 ∧ Blk w' ab ((usesS fl op x y t e).map .bool) ta ∧ Chg [ab] w w'
theorem l1Uses_all : ∀ (k : Nat) (op x y n : Int) (t e : Ss), cntL t + cntL e ≤ k → UsP op x y n t e := by
  intro k
  induction k using Nat.strongRecOn with
  | _ k ihk =>
    intro op x y n t e hk vt ve Ft Fe ab ta fl w0 w hT hE h0 hab ha hfl
    have hlt := ha.lt
    refine enter Try.func64 rfl Try.ntmps64 rfl rfl ?_
    refine Z43 (Z44 (WO_box rfl fun w1 hs e1 z1 => ?_))
    replace hs : Blk w1 w.heap.size [.int .i64 op, .int .i64 x, .int .i64 y, .int .i64 n, vt, ve] _ := hs
    replace ha := ha.ext e1
    have s1 := e1.size_le
    have K : ∀ w', Chg [ab] w1 w' → Blk w' w.heap.size [.int .i64 op, .int .i64 x, .int .i64 y, .int .i64 n, vt, ve] 38 := fun w' h => hs.chg h (by simp; omega)
    have X : ∀ w', Chg [ab] w1 w' → Ext w0 w' := fun w' h => h.ext_of (h0.trans e1) (by simpa using hab)
    refine Z1 rfl (Z31 (Z33 ?_))
    refine Z43 (Z44 ?_)
    refine WO_cut [(0, .slice (some ⟨ab, 0, none⟩) 6 6), (3, .pointer (some ⟨w.heap.size, 0, none⟩)), (5, .bool (decide (3 ≤ op ∧ op ≤ 7)))] (fun w' => w' = w1) ?_ (fun w2 hR => ?_)
    · (refine goS ?_; repeat' (first | ((refine Z51 rfl rfl (fun c' hc' => ?_)); cases c' <;> (try simp only [decide_eq_true_eq, decide_eq_false_iff_not, beq_iff_eq, beq_eq_false_iff_ne, bne_iff_ne, bne_eq_false_iff_eq, ne_eq, gt_iff_lt, ge_iff_le, Int.not_lt, Int.not_le, Bool.not_eq_true', Bool.not_eq_false', Bool.not_true, Bool.not_false, reduceCtorEq, Decidable.not_not, not_true_eq_false, Bool.true_eq_false, Bool.false_eq_true] at hc') <;> (try (exfalso; omega)) <;> refine goS ?_) | ((refine Z52 rfl (fun hc' => ?_) (fun hc' => ?_)) <;> (try simp only [decide_eq_true_eq, decide_eq_false_iff_not, beq_iff_eq, beq_eq_false_iff_ne, bne_iff_ne, bne_eq_false_iff_eq, ne_eq, gt_iff_lt, ge_iff_le, Int.not_lt, Int.not_le, Bool.not_eq_true', Bool.not_eq_false', Bool.not_true, Bool.not_false, reduceCtorEq, Decidable.not_not, not_true_eq_false, Bool.true_eq_false, Bool.false_eq_true] at hc') <;> (try (exfalso; omega)) <;> refine goS ?_)))
      all_goals exact at_meets (And.intro rfl (And.intro rfl (And.intro (congrArg (fun b => some (Value.bool b)) (by rw [Bool.eq_iff_iff]; simp <;> omega)) trivial))) rfl
    subst hR
    repeat (first | refine Z33 ?_ | refine Z43 ?_)
    refine Z44 ?_
    refine WO_cut [(0, .slice (some ⟨ab, 0, none⟩) 6 6), (3, .pointer (some ⟨w.heap.size, 0, none⟩)), (5, .bool (decide (3 ≤ op ∧ op ≤ 7))), (45, .bool (decide (op < 9 ∧ 0 ≤ x ∧ x < 6)))] (fun w' => w' = w2) ?_ (fun w3 hR => ?_)
    · (refine goS ?_; repeat' (first | ((refine Z51 rfl rfl (fun c' hc' => ?_)); cases c' <;> (try simp only [decide_eq_true_eq, decide_eq_false_iff_not, beq_iff_eq, beq_eq_false_iff_ne, bne_iff_ne, bne_eq_false_iff_eq, ne_eq, gt_iff_lt, ge_iff_le, Int.not_lt, Int.not_le, Bool.not_eq_true', Bool.not_eq_false', Bool.not_true, Bool.not_false, reduceCtorEq, Decidable.not_not, not_true_eq_false, Bool.true_eq_false, Bool.false_eq_true] at hc') <;> (try (exfalso; omega)) <;> refine goS ?_) | ((refine Z52 rfl (fun hc' => ?_) (fun hc' => ?_)) <;> (try simp only [decide_eq_true_eq, decide_eq_false_iff_not, beq_iff_eq, beq_eq_false_iff_ne, bne_iff_ne, bne_eq_false_iff_eq, ne_eq, gt_iff_lt, ge_iff_le, Int.not_lt, Int.not_le, Bool.not_eq_true', Bool.not_eq_false', Bool.not_true, Bool.not_false, reduceCtorEq, Decidable.not_not, not_true_eq_false, Bool.true_eq_false, Bool.false_eq_true] at hc') <;> (try (exfalso; omega)) <;> refine goS ?_)))
      all_goals exact at_meets (And.intro rfl (And.intro rfl (And.intro rfl (And.intro (congrArg (fun b => some (Value.bool b)) (by rw [Bool.eq_iff_iff]; simp <;> omega)) trivial)))) rfl
    subst hR
    repeat (first | refine Z33 ?_ | refine Z43 ?_)
    refine W_cut [(0, .slice (some ⟨ab, 0, none⟩) 6 6), (3, .pointer (some ⟨w.heap.size, 0, none⟩)), (5, .bool (decide (3 ≤ op ∧ op ≤ 7)))] (fun w' => Blk w' ab ((if op < 9 then mark1 fl x else fl).map .bool) ta ∧ Chg [ab] w3 w') ?_ (fun w4 hR => ?_)
    · refine Z52 rfl (fun hc => ?_) (fun hc => ?_)
      · simp only [decide_eq_true_eq] at hc
        obtain ⟨q1, q2, q3⟩ := hc
        obtain ⟨i, rfl⟩ := Int.eq_ofNat_of_zero_le q2
        refine goS ?_
        refine Z83 (j := i) rfl rfl rfl (by omega) ?_
        refine WO_store1 rfl rfl rfl ha (by simp; omega) fun w4 ha4 o4 => ?_
        rw [Nat.zero_add, Nat.mul_one, map_set_bool] at ha4
        refine goS ?_
        exact at_meets (by repeat (first | exact True.intro | refine And.intro rfl ?_)) ⟨by rw [if_pos q1, mark1_in rfl (by omega)]; exact ha4, o4.chg⟩
      · simp only [decide_eq_false_iff_not] at hc
        refine goS ?_
        refine at_meets (by repeat (first | exact True.intro | refine And.intro rfl ?_)) ⟨?_, Chg.refl _ _⟩
        by_cases h9 : op < 9
        · rw [if_pos h9, mark1_out (by omega)]; exact ha
        · rw [if_neg h9]; exact ha
    clear ha
    obtain ⟨ha, hch⟩ := hR
    have hfl3 : (if op < 9 then mark1 fl x else fl).length = 6 := by split <;> simp [mark1_length, hfl]
    have hs4 := K w4 hch
    repeat (first | refine Z33 ?_ | refine Z43 ?_)
    refine Z44 ?_
    refine WO_cut [(0, .slice (some ⟨ab, 0, none⟩) 6 6), (3, .pointer (some ⟨w.heap.size, 0, none⟩)), (62, .bool (decide ((3 ≤ op ∧ op ≤ 7) ∧ 0 ≤ y ∧ y < 6)))] (fun w' => w' = w4) ?_ (fun w5 hR => ?_)
    · (refine goS ?_; repeat' (first | ((refine Z51 rfl rfl (fun c' hc' => ?_)); cases c' <;> (try simp only [decide_eq_true_eq, decide_eq_false_iff_not, beq_iff_eq, beq_eq_false_iff_ne, bne_iff_ne, bne_eq_false_iff_eq, ne_eq, gt_iff_lt, ge_iff_le, Int.not_lt, Int.not_le, Bool.not_eq_true', Bool.not_eq_false', Bool.not_true, Bool.not_false, reduceCtorEq, Decidable.not_not, not_true_eq_false, Bool.true_eq_false, Bool.false_eq_true] at hc') <;> (try (exfalso; omega)) <;> refine goS ?_) | ((refine Z52 rfl (fun hc' => ?_) (fun hc' => ?_)) <;> (try simp only [decide_eq_true_eq, decide_eq_false_iff_not, beq_iff_eq, beq_eq_false_iff_ne, bne_iff_ne, bne_eq_false_iff_eq, ne_eq, gt_iff_lt, ge_iff_le, Int.not_lt, Int.not_le, Bool.not_eq_true', Bool.not_eq_false', Bool.not_true, Bool.not_false, reduceCtorEq, Decidable.not_not, not_true_eq_false, Bool.true_eq_false, Bool.false_eq_true] at hc') <;> (try (exfalso; omega)) <;> refine goS ?_)))
      all_goals exact at_meets (And.intro rfl (And.intro rfl (And.intro (congrArg (fun b => some (Value.bool b)) (by rw [Bool.eq_iff_iff]; simp <;> omega)) trivial))) rfl
    subst hR
    repeat (first | refine Z33 ?_ | refine Z43 ?_)
    refine W_cut [(0, .slice (some ⟨ab, 0, none⟩) 6 6), (3, .pointer (some ⟨w.heap.size, 0, none⟩))] (fun w' => Blk w' ab ((uses1 fl op x y).map .bool) ta ∧ Chg [ab] w3 w') ?_ (fun w6 hR => ?_)
    · refine Z52 rfl (fun hc => ?_) (fun hc => ?_)
      · simp only [decide_eq_true_eq] at hc
        obtain ⟨q1, q2, q3⟩ := hc
        obtain ⟨i, rfl⟩ := Int.eq_ofNat_of_zero_le q2
        refine goS ?_
        refine Z83 (j := i) rfl rfl rfl (by omega) ?_
        refine WO_store1 rfl rfl rfl ha (by simp [hfl3]; omega) fun w6 ha6 o6 => ?_
        rw [Nat.zero_add, Nat.mul_one, map_set_bool] at ha6
        refine goS ?_
        exact at_meets (by repeat (first | exact True.intro | refine And.intro rfl ?_)) ⟨by unfold uses1; rw [if_pos q1, mark1_in rfl (by omega)]; exact ha6, hch.trans o6.chg⟩
      · simp only [decide_eq_false_iff_not] at hc
        refine goS ?_
        refine at_meets (by repeat (first | exact True.intro | refine And.intro rfl ?_)) ⟨?_, hch⟩
        unfold uses1
        by_cases h9 : 3 ≤ op ∧ op ≤ 7
        · rw [if_pos h9, mark1_out (by omega)]; exact ha
        · rw [if_neg h9]; exact ha
    clear ha hch hs4 hfl3
    obtain ⟨ha, hch⟩ := hR
    replace hfl : (uses1 fl op x y).length = 6 := by rw [uses1_length]; exact hfl
    have hs6 := K w6 hch
    refine goS ?_
    obtain ⟨A, cap, rfl, hll, _⟩ := hT.slice
    have hst := restS_start hT
    unfold maxI at hll
    refine W_loop (α := Nat × Ss × List Bool) (fun p => [(0, .slice (some ⟨ab, 0, none⟩) 6 6), (3, .pointer (some ⟨w.heap.size, 0, none⟩)), (6, .int .i64 (p.1 : Int))])
      (fun p w' => p.1 + p.2.1.len = Ss.len t ∧ cntL p.2.1 ≤ cntL t ∧ usesL p.2.1 p.2.2 = usesL t (uses1 fl op x y) ∧ p.2.2.length = 6 ∧ RestS w0 A p.1 p.2.1 ∧ Blk w' ab (p.2.2.map .bool) ta ∧ Chg [ab] w3 w') (fun p => p.2.1.len) (0, t, uses1 fl op x y) (by repeat (first | exact True.intro | refine And.intro rfl ?_)) ⟨by simp, Nat.le_refl _, rfl, hfl, hst, ha, hch⟩ ?_
    rintro ⟨i, r, fl1⟩ w4 ⟨hi, hcl, hus, hfl, hr, ha, hch⟩
    simp only at hi hcl hus hfl hr ha ⊢
    have hs4 := K w4 hch
    refine goS ?_
    refine Z52 rfl (fun hc => ?_) (fun hc => ?_)
    · have hlt : i < Ss.len t := by simpa using hc
      cases r with
      | nil => simp only [Ss.len] at hi; omega
      | cons op' x' y' n' t' e' r =>
        obtain ⟨b, o, vt', ve', Ft', Fe', rfl, hcells, hT', hE', hrest⟩ := restS_cons hr
        simp only [Ss.len, cntL] at hi hcl
        have hx4 := X w4 hch
        refine goS ?_
        refine Z83 rfl rfl rfl hlt ?_
        refine WO_loadS rfl rfl (fun j u hu => cell_ext (hcells j u hu) hx4) ?_
        refine WO_call rfl (ihk (cntL t' + cntL e') (by omega) op' x' y' n' t' e' (Nat.le_refl _) vt' ve' Ft' Fe' ab ta fl1 w0 w4 hT' hE' hx4 hab ha hfl) ?_
        rintro _ w7 ⟨rfl, ha7, c7⟩
        refine goS ?_
        refine at_loop (i + 1, r, usesS fl1 op' x' y' t' e') (by repeat (first | exact True.intro | refine And.intro rfl ?_)) ⟨by simp only; omega, by simp only; omega, hus, by rw [usesS_length]; exact hfl, hrest, ha7, hch.trans c7⟩ (by simp only [Ss.len]; omega)
    have hge : i = Ss.len t := by simp at hc; omega
    have hr0 : r = .nil := Ss.len_zero (by omega)
    subst hr0
    have hus : fl1 = usesL t (uses1 fl op x y) := hus
    subst hus
    have hs7 := K w4 hch
    clear hst hr hll
    refine goS ?_
    obtain ⟨A, cap, rfl, hll, _⟩ := hE.slice
    have hst := restS_start hE
    unfold maxI at hll
    refine W_loop (α := Nat × Ss × List Bool) (fun p => [(0, .slice (some ⟨ab, 0, none⟩) 6 6), (3, .pointer (some ⟨w.heap.size, 0, none⟩)), (7, .int .i64 (p.1 : Int))])
      (fun p w' => p.1 + p.2.1.len = Ss.len e ∧ cntL p.2.1 ≤ cntL e ∧ usesL p.2.1 p.2.2 = usesL e (usesL t (uses1 fl op x y)) ∧ p.2.2.length = 6 ∧ RestS w0 A p.1 p.2.1 ∧ Blk w' ab (p.2.2.map .bool) ta ∧ Chg [ab] w3 w') (fun p => p.2.1.len) (0, e, usesL t (uses1 fl op x y)) (by repeat (first | exact True.intro | refine And.intro rfl ?_)) ⟨by simp, Nat.le_refl _, rfl, hfl, hst, ha, hch⟩ ?_
    rintro ⟨i, r, fl1⟩ w4 ⟨hi, hcl, hus, hfl, hr, ha, hch⟩
    simp only at hi hcl hus hfl hr ha ⊢
    have hs4 := K w4 hch
    refine goS ?_
    refine Z52 rfl (fun hc => ?_) (fun hc => ?_)
    · have hlt : i < Ss.len e := by simpa using hc
      cases r with
      | nil => simp only [Ss.len] at hi; omega
      | cons op' x' y' n' t' e' r =>
        obtain ⟨b, o, vt', ve', Ft', Fe', rfl, hcells, hT', hE', hrest⟩ := restS_cons hr
        simp only [Ss.len, cntL] at hi hcl
        have hx4 := X w4 hch
        refine goS ?_
        refine Z83 rfl rfl rfl hlt ?_
        refine WO_loadS rfl rfl (fun j u hu => cell_ext (hcells j u hu) hx4) ?_
        refine WO_call rfl (ihk (cntL t' + cntL e') (by omega) op' x' y' n' t' e' (Nat.le_refl _) vt' ve' Ft' Fe' ab ta fl1 w0 w4 hT' hE' hx4 hab ha hfl) ?_
        rintro _ w7 ⟨rfl, ha7, c7⟩
        refine goS ?_
        refine at_loop (i + 1, r, usesS fl1 op' x' y' t' e') (by repeat (first | exact True.intro | refine And.intro rfl ?_)) ⟨by simp only; omega, by simp only; omega, hus, by rw [usesS_length]; exact hfl, hrest, ha7, hch.trans c7⟩ (by simp only [Ss.len]; omega)
    have hge : i = Ss.len e := by simp at hc; omega
    have hr0 : r = .nil := Ss.len_zero (by omega)
    subst hr0
    have hus : fl1 = usesL e (usesL t (uses1 fl op x y)) := hus
    subst hus
    refine goS ?_
    exact at_ret1 rfl rfl ⟨rfl, ha, (e1.chg _).trans hch⟩
theorem sVarsOf_ret (op x y n : Int) (t e : Ss) (vt ve : Value) (Ft Fe : List Nat) (w : World) (hT : StS w vt t Ft) (hE : StS w ve e Fe) : Ret Try.prog 31 [stV op x y n vt ve] w (NewInts (varsL op x y t e) w) := by
  refine enter Try.func31 rfl Try.ntmps31 rfl rfl ?_
  refine Z43 (Z44 (WO_box rfl fun w1 hs e1 z1 => ?_))
  replace hs : Blk w1 w.heap.size [.int .i64 op, .int .i64 x, .int .i64 y, .int .i64 n, vt, ve] _ := hs
  have s1 := e1.size_le
  refine goS ?_
  refine WO_build0 (e := 3) (k := 1) fun w2 hb0 e2 z2 => ?_
  have hown2 := owns_empty (B := w.heap.size) (k := 1) hb0 s1
  have s2 := e2.size_le
  refine goS ?_
  refine W_held0E [] (fun τ w' => ∃ ab us, τ = [(3, .slice (some ⟨w1.heap.size, 0, none⟩) 0 0), (4, .slice (some ⟨ab, 0, none⟩) 6 6)] ∧ Blk w' ab (us.map .bool) 4 ∧ us = usesS noVars op x y t e ∧ Ext w2 w') (by kernel_rfl) (fun ws es hS => ?_) (fun τ w4 hT => ?_)
  · refine Z82 1 rfl (by kernel_rfl) (by kernel_rfl) (by kernel_rfl) (by assumption) (fun w' hw' => q_loadS (cs := [.int .i64 op, .int .i64 x, .int .i64 y, .int .i64 n, vt, ve]) rfl rfl (fun j u hu => by rw [Nat.zero_add]; exact (((hs.ext e2).ext es).ext hw'.ext).cell hu)) ?_
    refine WH_one 0 rfl (by kernel_rfl) (WO_make (m := 6) rfl rfl rfl rfl (by decide) (by decide) (by decide) fun w3 ha e3 z3 => Z31 (at_held (e3.chg []) ?_))
    replace ha : Blk w3 ws.heap.size (noVars.map .bool) _ := ha
    have e03 := ((e1.trans e2).trans es)
    refine WX_call 2 rfl (by kernel_rfl) rfl (l1Uses_all _ op x y n t e (Nat.le_refl _) vt ve Ft Fe ws.heap.size _ noVars w w3 hT hE (e03.trans e3) e03.size_le ha rfl) ?_
    rintro _ w5 ⟨rfl, ha5, c5⟩
    have e5 : Ext ws w5 := c5.ext_of e3 (by simp)
    have hS5 := e5.chg []
    refine ⟨hS5, ?_⟩
    refine Z82 3 rfl (by kernel_rfl) (by kernel_rfl) (by kernel_rfl) (by assumption) (fun w' hw' => Z56 rfl) ?_
    exact WH_doneE (τ := [(3, .slice (some ⟨w1.heap.size, 0, none⟩) 0 0), (4, .slice (some ⟨ws.heap.size, 0, none⟩) 6 6)]) (by kernel_rfl) (by repeat (first | exact True.intro | refine And.intro rfl ?_)) ⟨_, _, rfl, ha5, rfl, es.trans e5⟩
  obtain ⟨ab, us, rfl, ha, hus, e24⟩ := hT
  have hul : us.length = 6 := by rw [hus, usesS_length]; rfl
  have hvl : varsL op x y t e = truesTo us 6 := by rw [hus]; rfl
  have hown4 := ownsRow_ext hown2 e24
  have e4 := (e1.trans e2).trans e24
  have hne : ab ≠ w1.heap.size := by
    intro he
    subst he
    have := hb0.ext e24
    unfold Blk at this ha
    rw [ha] at this
    have h2 := congrArg (fun o => match o with | some (Obj.cells c _ _) => c.size | _ => 0) this
    simp [hul] at h2
  refine goS ?_
  refine W_loop (α := Nat × Value) (fun p => [(3, p.2), (4, .slice (some ⟨ab, 0, none⟩) 6 6), (5, .int .i64 (p.1 : Int))])
    (fun p w' => p.1 ≤ 6 ∧ Ext w w' ∧ Blk w' ab (us.map .bool) 4 ∧ (p.2.ownBlock ≠ some ab) ∧ w'.ownsRow w.heap.size 3 1 p.2 (truesTo us p.1).length ((truesTo us p.1).map (.int .i64))) (fun p => 6 - p.1) (0, _) (by repeat (first | exact True.intro | refine And.intro rfl ?_)) ⟨Nat.zero_le _, e4, ha, by simp [Value.ownBlock]; exact fun h => hne h.symm, hown4⟩ ?_
  rintro ⟨i, vo⟩ w5 ⟨hi, he, ha, hvo, hown⟩
  simp only at hi he hvo hown ⊢
  have htl := truesTo_length us i
  have hlta := ha.lt
  refine goS ?_
  refine Z52 rfl (fun hc => ?_) (fun hc => ?_)
  · have hlt : i < 6 := by simp at hc; omega
    have hget : w5.cell? ⟨ab, 0 + i * 1, none⟩ = some (.bool us[i]) := ha.cell (by simp [hul, hlt])
    have hstep : ∀ (bl : Bool), us[i] = bl → truesTo us (i + 1) = truesTo us i ++ (if bl then [(i : Int)] else []) := fun bl hb => by
      simp only [truesTo, List.getElem?_eq_getElem (show i < us.length by omega), hb]
      cases bl <;> rfl
    refine goS ?_
    refine Z83 rfl rfl rfl hlt ?_
    cases hb : us[i]
    · rw [hb] at hget
      have hs := hstep _ hb
      refine goS ?_
      refine at_loop (i + 1, vo) (by repeat (first | exact True.intro | refine And.intro rfl ?_)) ⟨hlt, he, ha, hvo, ?_⟩ (by simp only; omega)
      simp only
      rw [hs]
      simpa using hown
    · rw [hb] at hget
      have hs := hstep _ hb
      refine goS ?_
      refine WO_app1 (m := (truesTo us i).length) rfl rfl one_int rfl hown he.size rfl (by omega) (by decide) fun v' w6 hown6 hg hat => ?_
      refine goS ?_
      refine at_loop (i + 1, v') (by repeat (first | exact True.intro | refine And.intro rfl ?_)) ⟨hlt, grown_below he hown hg (Nat.le_refl _), ha.grown hg (fun h => hvo h.symm), ?_, ?_⟩ (by simp only; omega)
      · simp only
        rcases hat with h | h
        · rw [h]; exact hvo
        · rw [h]; simp; omega
      · simp only
        rw [hs, if_pos rfl, List.length_append, List.map_append]
        exact hown6
  · have hge : i = 6 := by simp at hc; omega
    subst hge
    rw [← hvl] at hown
    obtain ⟨F', hF, hB, _⟩ := OwnI.of_row hown rfl (by rw [hvl]; have := truesTo_length us 6; unfold maxI; omega)
    refine goS ?_
    exact at_ret1 rfl rfl ⟨⟨F', hF, hB⟩, he⟩
/-! ### Numbers in slices -/
theorem slIndex_ret (v : Value) (l : List Int) (F : List Nat) (x : Int) (w : World) (h : IntF w v l F) : Ret Try.prog 75 [v, .int .i64 x] w fun r w' => (∃ i : Int, r = .int .i64 i ∧ (0 ≤ i ↔ x ∈ l)) ∧ w' = w := by
  obtain ⟨A, c, rfl, hl, hx⟩ := h
  unfold maxI at hl
  refine enter Try.func75 rfl Try.ntmps75 rfl rfl ?_
  refine goS ?_
  refine W_loop (α := Nat) (fun i => [(0, .slice A l.length c), (1, .int .i64 x), (7, .int .i64 (l.length : Int)), (8, .int .i64 (i : Int))])
    (fun i w' => i ≤ l.length ∧ x ∉ l.take i ∧ w' = w) (fun i => l.length - i) 0 (by repeat (first | exact True.intro | refine And.intro rfl ?_)) ⟨Nat.zero_le _, by simp, rfl⟩ ?_
  rintro i w1 ⟨hi, hno, rfl⟩
  refine goS ?_
  refine Z52 rfl (fun hc => ?_) (fun hc => ?_)
  · have hlt : i < l.length := by simpa using hc
    obtain ⟨b, o, rfl, _, hcell⟩ := int_at hx hlt
    clear hx
    refine goS ?_
    refine Z83 rfl rfl rfl hlt ?_
    refine goS ?_
    refine Z52 rfl (fun hc => ?_) (fun hc => ?_)
    · refine goS ?_
      exact at_ret1 rfl rfl ⟨⟨i, rfl, ⟨fun _ => by simp at hc; rw [hc]; exact List.getElem_mem hlt, fun _ => by omega⟩⟩, rfl⟩
    · refine goS ?_
      refine at_loop (i + 1) (by repeat (first | exact True.intro | refine And.intro rfl ?_)) ⟨hlt, ?_, rfl⟩ (by omega)
      rw [List.take_succ_eq_append_getElem hlt]
      simp at hc
      simp only [List.mem_append, List.mem_singleton, not_or]
      exact ⟨hno, hc⟩
  · have hge : i = l.length := by simp at hc; omega
    subst hge
    rw [List.take_length] at hno
    refine goS ?_
    exact at_ret1 rfl rfl ⟨⟨-1, rfl, ⟨fun h => by omega, fun h => absurd h hno⟩⟩, rfl⟩
theorem slContains_ret (v : Value) (l : List Int) (F : List Nat) (x : Int) (w : World) (h : IntF w v l F) : Ret Try.prog 56 [v, .int .i64 x] w fun r w' => r = .bool (decide (x ∈ l)) ∧ w' = w := by
  refine enter Try.func56 rfl Try.ntmps56 rfl rfl ?_
  refine goS ?_
  refine WO_call rfl (slIndex_ret v l F x w h) ?_
  rintro _ w1 ⟨⟨i, rfl, hi⟩, rfl⟩
  refine goS ?_
  refine at_ret1 rfl rfl ⟨congrArg Value.bool ?_, rfl⟩
  rw [Bool.eq_iff_iff]
  simp only [ge_iff_le, decide_eq_true_eq]
  exact hi
theorem l2Has_ret (v : Value) (l : List Int) (F : List Nat) (x : Int) (w : World) (h : IntF w v l F) : Ret Try.prog 57 [v, .int .i64 x] w fun r w' => r = .bool (decide (x ∈ l)) ∧ w' = w := by
  obtain ⟨A, c, rfl, hl, hx⟩ := h
  unfold maxI at hl
  refine enter Try.func57 rfl Try.ntmps57 rfl rfl ?_
  refine goS ?_
  refine W_loop (α := Nat) (fun i => [(0, .slice A l.length c), (1, .int .i64 x), (5, .int .i64 (i : Int))])
    (fun i w' => i ≤ l.length ∧ x ∉ l.take i ∧ w' = w) (fun i => l.length - i) 0 (by repeat (first | exact True.intro | refine And.intro rfl ?_)) ⟨Nat.zero_le _, by simp, rfl⟩ ?_
  rintro i w1 ⟨hi, hno, rfl⟩
  refine goS ?_
  refine Z52 rfl (fun hc => ?_) (fun hc => ?_)
  · have hlt : i < l.length := by simpa using hc
    obtain ⟨b, o, rfl, _, hcell⟩ := int_at hx hlt
    clear hx
    refine goS ?_
    refine Z83 rfl rfl rfl hlt ?_
    refine goS ?_
    refine Z52 rfl (fun hc => ?_) (fun hc => ?_)
    · refine goS ?_
      refine at_ret1 rfl rfl ⟨?_, rfl⟩
      simp at hc
      rw [decide_eq_true (hc ▸ List.getElem_mem hlt)]
    · refine goS ?_
      refine at_loop (i + 1) (by repeat (first | exact True.intro | refine And.intro rfl ?_)) ⟨hlt, ?_, rfl⟩ (by omega)
      rw [List.take_succ_eq_append_getElem hlt]
      simp at hc
      simp only [List.mem_append, List.mem_singleton, not_or]
      exact ⟨hno, fun h => hc h.symm⟩
  · have hge : i = l.length := by simp at hc; omega
    subst hge
    rw [List.take_length] at hno
    refine goS ?_
    exact at_ret1 rfl rfl ⟨by rw [decide_eq_false hno], rfl⟩
theorem indexFuncE_ret {f : FuncId} [Fn0 Try.prog f] (first captured : List Value) (p : Int → Bool) (tv : Value) (tl : List Int) (F : List Nat) (w : World) (h : IntF w tv tl F)
    (hp : ∀ x w', Ext w w' → Ret Try.prog f (first ++ [.int .i64 x] ++ captured) w' fun v w'' => v = .bool (p x) ∧ Ext w' w'') :
    Ret Try.prog 74 [tv, .func (.func f) first.toArray captured.toArray] w fun v w' => (∃ i : Int, v = .int .i64 i ∧ (0 ≤ i ↔ tl.any p = true)) ∧ Ext w w' := by
  obtain ⟨A, c, rfl, hl, hx⟩ := h
  unfold maxI at hl
  refine enter Try.func74 rfl Try.ntmps74 rfl rfl ?_
  refine goS ?_
  refine W_loop (α := Nat) (fun i => [(0, .slice A tl.length c), (1, .func (.func f) first.toArray captured.toArray), (7, .int .i64 (tl.length : Int)), (8, .int .i64 (i : Int))])
    (fun i w' => i ≤ tl.length ∧ (tl.take i).any p = false ∧ Ext w w') (fun i => tl.length - i) 0 (by repeat (first | exact True.intro | refine And.intro rfl ?_)) ⟨Nat.zero_le _, rfl, Ext.refl _⟩ ?_
  rintro i w1 ⟨hi, ht, he⟩
  refine goS ?_
  refine Z52 rfl (fun hc => ?_) (fun hc => ?_)
  · have hlt : i < tl.length := by simpa using hc
    obtain ⟨b, o, rfl, _, hcell⟩ := int_at hx hlt
    have hcell := cell_ext hcell he
    have htk : tl.take (i + 1) = tl.take i ++ [tl[i]] := List.take_succ_eq_append_getElem hlt
    clear hx
    refine goS ?_
    refine Z83 rfl rfl rfl hlt ?_
    refine goS ?_
    refine WO_callV (first := first) (captured := captured) rfl rfl (hp tl[i] w1 he) ?_
    rintro v w2 ⟨rfl, e2⟩
    cases hpi : p tl[i]
    · refine goS ?_
      refine at_loop (i + 1) (by repeat (first | exact True.intro | refine And.intro rfl ?_)) ⟨hlt, ?_, he.trans e2⟩ (by omega)
      rw [htk, List.any_append, ht]
      simp [hpi]
    · refine goS ?_
      exact at_ret1 rfl rfl ⟨⟨i, rfl, ⟨fun _ => List.any_eq_true.2 ⟨_, List.getElem_mem hlt, hpi⟩, fun _ => by omega⟩⟩, he.trans e2⟩
  · have hge : i = tl.length := by simp at hc; omega
    subst hge
    rw [List.take_length] at ht
    refine goS ?_
    refine at_ret1 rfl rfl ⟨⟨-1, rfl, ?_⟩, he⟩
    rw [ht]
    simp
theorem containsFuncE_ret {f : FuncId} [Fn0 Try.prog f] (first captured : List Value) (p : Int → Bool) (tv : Value) (tl : List Int) (F : List Nat) (w : World) (h : IntF w tv tl F)
    (hp : ∀ x w', Ext w w' → Ret Try.prog f (first ++ [.int .i64 x] ++ captured) w' fun v w'' => v = .bool (p x) ∧ Ext w' w'') :
    Ret Try.prog 54 [tv, .func (.func f) first.toArray captured.toArray] w fun v w' => v = .bool (tl.any p) ∧ Ext w w' := by
  refine enter Try.func54 rfl Try.ntmps54 rfl rfl ?_
  refine goS ?_
  refine WO_call rfl (indexFuncE_ret first captured p tv tl F w h hp) ?_
  rintro v w1 ⟨⟨i, rfl, hany⟩, e1⟩
  refine goS ?_
  refine at_ret1 rfl rfl ⟨congrArg Value.bool ?_, e1⟩
  rw [Bool.eq_iff_iff]
  simp only [ge_iff_le, decide_eq_true_eq]
  exact hany
def apartB (la lb : List Int) : Bool := !(la.any fun v => decide (v ∈ lb))
theorem varsApart1_ret (x : Int) (pb : Nat) (tp : TypeId) (v : Value) (l : List Int) (F : List Nat) (w : World) (hp : Blk w pb [v] tp) (h : IntF w v l F) : Ret Try.prog 55 [.int .i64 x, .pointer (some ⟨pb, 0, none⟩)] w fun r w' => r = .bool (decide (x ∈ l)) ∧ Ext w w' := by
  refine enter Try.func55 rfl Try.ntmps55 rfl rfl ?_
  refine goS ?_
  refine WO_call rfl (slContains_ret v l F x w h) ?_
  rintro _ w1 ⟨rfl, rfl⟩
  refine goS ?_
  exact at_ret1 rfl rfl ⟨rfl, Ext.refl _⟩
theorem VarsApart_ret (op x y n : Int) (t e : Ss) (vt ve : Value) (Ft Fe : List Nat) (op' x' y' n' : Int) (t' e' : Ss) (vt' ve' : Value) (Ft' Fe' : List Nat) (w : World) (hT : StS w vt t Ft) (hE : StS w ve e Fe) (hT' : StS w vt' t' Ft') (hE' : StS w ve' e' Fe') :
    Ret Try.prog 23 [stV op x y n vt ve, stV op' x' y' n' vt' ve'] w fun r w' => r = .bool (apartB (varsL op x y t e) (varsL op' x' y' t' e')) ∧ Ext w w' := by
  refine enter Try.func23 rfl Try.ntmps23 rfl rfl ?_
  refine Z43 (Z44 (WO_box rfl fun w1 h1 e1 z1 => WO_box rfl fun w2 h2 e2 z2 => ?_))
  replace h1 : Blk w2 w.heap.size [.int .i64 op, .int .i64 x, .int .i64 y, .int .i64 n, vt, ve] _ := Blk.ext h1 e2
  replace h2 : Blk w2 w1.heap.size [.int .i64 op', .int .i64 x', .int .i64 y', .int .i64 n', vt', ve'] _ := h2
  have e12 := e1.trans e2
  refine goS ?_
  refine WO_loadSB rfl h2 rfl ?_
  refine WO_call rfl (VarsOf_ret op' x' y' n' t' e' vt' ve' Ft' Fe' w2 (hT'.ext e12) (hE'.ext e12)) ?_
  rintro vb w3 ⟨⟨Fb, hb, _⟩, e3⟩
  have hone : vb.oneCell' = true := by
    obtain ⟨A, c, rfl, _⟩ := hb
    rfl
  refine goS ?_
  refine WO_alloc fun w4 hq e4 z4 => ?_
  refine WO_store1 rfl rfl hone hq (by simp [Value.cells]) fun w5 hq5 o5 => ?_
  replace hq5 : Blk w5 w3.heap.size [vb] _ := hq5
  have e5 : Ext w3 w5 := e4.only o5 (Nat.le_refl _)
  have e05 := (e12.trans e3).trans e5
  refine goS ?_
  refine WO_loadSB rfl ((h1.ext e3).ext e5) rfl ?_
  refine WO_call rfl (VarsOf_ret op x y n t e vt ve Ft Fe w5 (hT.ext e05) (hE.ext e05)) ?_
  rintro va w6 ⟨⟨Fa, ha, _⟩, e6⟩
  refine goS ?_
  refine Z13 (q_makeFunc rfl rfl) ?_
  refine WO_call rfl (containsFuncE_ret (f := 55) [] [.pointer (some ⟨w3.heap.size, 0, none⟩)] (fun v => decide (v ∈ varsL op' x' y' t' e')) va _ Fa w6 ha.int (fun x w' e' => varsApart1_ret x w3.heap.size _ vb _ Fb w' ((hq5.ext e6).ext e') (((hb.ext e5).ext e6).ext e').int)) ?_
  rintro _ w7 ⟨rfl, e7⟩
  refine goS ?_
  exact at_ret1 rfl rfl ⟨rfl, (e05.trans e6).trans e7⟩
theorem sVarsApart_ret (op x y n : Int) (t e : Ss) (vt ve : Value) (Ft Fe : List Nat) (op' x' y' n' : Int) (t' e' : Ss) (vt' ve' : Value) (Ft' Fe' : List Nat) (w : World) (hT : StS w vt t Ft) (hE : StS w ve e Fe) (hT' : StS w vt' t' Ft') (hE' : StS w ve' e' Fe') :
    Ret Try.prog 24 [stV op x y n vt ve, stV op' x' y' n' vt' ve'] w fun r w' => r = .bool (apartB (varsL op x y t e) (varsL op' x' y' t' e')) ∧ Ext w w' := by
  refine enter Try.func24 rfl Try.ntmps24 rfl rfl ?_
  refine Z43 (Z44 (WO_box rfl fun w1 h1 e1 z1 => WO_box rfl fun w2 h2 e2 z2 => ?_))
  replace h1 : Blk w2 w.heap.size [.int .i64 op, .int .i64 x, .int .i64 y, .int .i64 n, vt, ve] _ := Blk.ext h1 e2
  replace h2 : Blk w2 w1.heap.size [.int .i64 op', .int .i64 x', .int .i64 y', .int .i64 n', vt', ve'] _ := h2
  have e12 := e1.trans e2
  refine goS ?_
  refine WO_loadSB rfl h1 rfl ?_
  refine WO_call rfl (sVarsOf_ret op x y n t e vt ve Ft Fe w2 (hT.ext e12) (hE.ext e12)) ?_
  rintro va w3 ⟨⟨Fa, ha, _⟩, e3⟩
  refine goS ?_
  refine WO_loadSB rfl (h2.ext e3) rfl ?_
  refine WO_call rfl (sVarsOf_ret op' x' y' n' t' e' vt' ve' Ft' Fe' w3 (hT'.ext (e12.trans e3)) (hE'.ext (e12.trans e3))) ?_
  rintro vb w4 ⟨⟨Fb, hb, _⟩, e4⟩
  have ha4 := (ha.ext e4).int
  generalize varsL op x y t e = la at ha4 ⊢
  obtain ⟨A, c, rfl, hl, hx⟩ := ha4
  unfold maxI at hl
  have e04 := (e12.trans e3).trans e4
  refine goS ?_
  refine W_loop (α := Nat) (fun i => [(5, .slice A la.length c), (6, vb), (7, .int .i64 (i : Int))])
    (fun i w' => i ≤ la.length ∧ ((la.take i).any fun v => decide (v ∈ varsL op' x' y' t' e')) = false ∧ w' = w4) (fun i => la.length - i) 0 (by repeat (first | exact True.intro | refine And.intro rfl ?_)) ⟨Nat.zero_le _, rfl, rfl⟩ ?_
  rintro i w5 ⟨hi, hno, rfl⟩
  refine goS ?_
  refine Z52 rfl (fun hc => ?_) (fun hc => ?_)
  · have hlt : i < la.length := by simpa using hc
    obtain ⟨b, o, rfl, _, hcell⟩ := int_at hx hlt
    have htk : la.take (i + 1) = la.take i ++ [la[i]] := List.take_succ_eq_append_getElem hlt
    clear hx
    refine goS ?_
    refine Z83 rfl rfl rfl hlt ?_
    refine goS ?_
    refine WO_call rfl (l2Has_ret vb _ Fb la[i] w5 hb.int) ?_
    rintro _ w6 ⟨rfl, rfl⟩
    by_cases hm : la[i] ∈ varsL op' x' y' t' e'
    · rw [decide_eq_true hm]
      refine goS ?_
      refine at_ret1 rfl rfl ⟨?_, e04⟩
      unfold apartB
      rw [List.any_eq_true.2 ⟨la[i], List.getElem_mem hlt, by simpa using hm⟩]
      rfl
    · rw [decide_eq_false hm]
      refine goS ?_
      refine at_loop (i + 1) (by repeat (first | exact True.intro | refine And.intro rfl ?_)) ⟨hlt, ?_, rfl⟩ (by omega)
      rw [htk, List.any_append, hno]
      simp [hm]
  · have hge : i = la.length := by simp at hc; omega
    subst hge
    rw [List.take_length] at hno
    refine goS ?_
    refine at_ret1 rfl rfl ⟨?_, e04⟩
    unfold apartB
    rw [hno]
    rfl
end Go.Proofs.Ytplcmbipeanjdaa
