/-
  What is proved here: maps with keys of type int: made, looked up, updated. No function of the program stands here.
-/
import Derived.Test.YtnfapbghkmodeaaDoorInts
import Derived.MapKept
namespace Go.Proofs.YtnfapbghkmodeaaDoor
set_option linter.unusedVariables false
set_option linter.unusedSimpArgs false
set_option linter.unnecessarySimpa false
open Go.RowKit

def lookI : List (Int × Value) → Int → Option Value
  | [], _ => none
  | x :: r, k => if k = x.1 then some x.2 else lookI r k
def updI : List (Int × Value) → Int → Value → List (Int × Value)
  | [], k, v => [(k, v)]
  | x :: r, k, v => if k = x.1 then (k, v) :: r else x :: updI r k v
theorem lookI_updI (k : Int) (v : Value) (k' : Int) : ∀ l, lookI (updI l k v) k' = if k' = k then some v else lookI l k'
  | [] => by simp [lookI, updI]
  | x :: r => by
    have ih := lookI_updI k v k' r
    simp only [updI]
    split
    · rename_i h
      subst h
      simp only [lookI]
      split <;> rfl
    · rename_i h
      simp only [lookI, ih]
      by_cases h1 : k' = x.1
      · rw [if_pos h1, if_pos h1, if_neg (by omega)]
      · rw [if_neg h1, if_neg h1]
def kvE (e : MapEntry) : Value × Value := (e.key, e.val)
def kvI (x : Int × Value) : Value × Value := (.int .i64 x.1, x.2)
theorem find_kv (k : Int) : ∀ (es : List MapEntry) (l : List (Int × Value)) (i : Nat), es.map kvE = l.map kvI →
    (Instr.findNow (.int .i64) (.int .i64 k) es i = some none ∧ lookI l k = none ∧ ∀ v, updI l k v = l ++ [(k, v)]) ∨
    ∃ j e, Instr.findNow (.int .i64) (.int .i64 k) es i = some (some (i + j, e.val)) ∧ es[j]? = some e ∧ e.key = .int .i64 k ∧ lookI l k = some e.val ∧
      ∀ v, (es.modify j fun e => { e with key := .int .i64 k, val := v }).map kvE = (updI l k v).map kvI
  | [], [], i, _ => .inl ⟨rfl, rfl, fun _ => rfl⟩
  | [], _ :: _, _, h => by simp at h
  | _ :: _, [], _, h => by simp at h
  | e :: es, x :: l, i, h => by
    simp only [List.map_cons, List.cons.injEq] at h
    obtain ⟨h1, h2⟩ := h
    simp only [kvE, kvI, Prod.mk.injEq] at h1
    by_cases hk : k = x.1
    · refine .inr ⟨0, e, ?_, rfl, by rw [h1.1, hk], ?_, fun v => ?_⟩
      · simp [Instr.findNow, h1.1, Instr.sameNow, hk]
      · simp [lookI, hk, h1.2]
      · simp [updI, hk, kvE, kvI, ← h2, List.modify_cons]
    · have hne : Instr.sameNow (.int .i64) (.int .i64 k) e.key = some false := by simp [h1.1, Instr.sameNow, hk]
      rcases find_kv k es l (i + 1) h2 with ⟨a, b, c⟩ | ⟨j, e', a, b, c, d, u⟩
      · exact .inl ⟨by simp [Instr.findNow, hne, a], by simp [lookI, hk, b], fun v => by simp [updI, hk, c v]⟩
      · refine .inr ⟨j + 1, e', by simp [Instr.findNow, hne, a]; omega, by simpa using b, c, by simp [lookI, hk, d], fun v => ?_⟩
        simp only [List.modify_succ_cons, List.map_cons, updI, if_neg hk, u v]
        simp [kvE, kvI, h1]
/-- The block holds a map with these values at these keys. -/
def MapI (w : World) (b : Nat) (l : List (Int × Value)) : Prop := ∃ es clock, w.heap[b]? = some (.map es clock) ∧ es.toList.map kvE = l.map kvI
theorem MapI.lt {w : World} {b : Nat} {l : List (Int × Value)} (h : MapI w b l) : b < w.heap.size := by
  obtain ⟨es, clock, hb, _⟩ := h
  exact (Array.getElem?_eq_some_iff.1 hb).1
theorem MapI.chg {w w' : World} {b : Nat} {l : List (Int × Value)} {F : List Nat} (h : MapI w b l) (k : Chg F w w') (hn : b ∉ F) : MapI w' b l := by
  obtain ⟨es, clock, hb, he⟩ := id h
  exact ⟨es, clock, (k.block b h.lt hn).trans hb, he⟩
theorem MapI.ext {w w' : World} {b : Nat} {l : List (Int × Value)} (h : MapI w b l) (he : Ext w w') : MapI w' b l := h.chg (he.chg []) (by simp)

section
variable {P : Program} {n : Nat} {ops : Array Oper} {Q : Exit → Act → World → Prop} {rest : List Oper} {σ : Env} {w w' : World} {v u : Value}
variable {d : Nat} {ty : TypeId} {pos : String} {af : Array Edge} {x y s : Operand}
theorem WO_makeMap {t : TypeId} (h : ∀ w', MapI w' w.heap.size [] → Ext w w' → w'.heap.size = w.heap.size + 1 → WO P n ops Q rest ((d, .map (some w.heap.size)) :: σ) w') :
    WO P n ops Q (⟨some d, .makeMap t none, ty, pos, af, none⟩ :: rest) σ w :=
  WO.value rfl (w' := w.alloc (.map #[] 0)) ⟨fun m c hf => by
    simp [execOp, Instr.makeMap]⟩ (h _ ⟨#[], 0, (MapKept.heap_alloc w (.map #[] 0)).1, rfl⟩ (ext_alloc w _) (by simp))
theorem run_lookI {t kt e k' bytes b : Nat} {z : Value} [TMap P t kt e] [TInt P kt .i64] [TE P e z k' bytes] {l : List (Int × Value)} {k : Int} (hb : MapI w b l) :
    (Instr.lookup t (.map (some b)) (.int .i64 k) false).run P w = .ok ((lookI l k).getD z) w := by
  obtain ⟨es, clock, hb, hl⟩ := hb
  have hc := MapKept.run_checkKey (P := P) (w := w) (kt := kt) (d := .int .i64) (k := .int .i64 k) (TInt.und (P := P) (t := kt) (k := .i64)) rfl (es.isEmpty) 9999
  unfold Instr.lookup
  rcases find_kv k es.toList l 0 hl with ⟨a, c, _⟩ | ⟨j, e', a, b', c, d', _⟩
  · have hf := MapKept.run_findKey (P := P) (w := w) (TInt.und (P := P) (t := kt) (k := .i64)) a
    have hz := TE.run_zero (P := P) (e := e) (z := z) (k := k') (bytes := bytes) inferInstance w
    simp [run_underlying (TMap.und (P := P) (t := t) (k := kt) (e := e)), MapKept.run_getObj_map hb, hc, hf, hz, c]
  · have hf := MapKept.run_findKey (P := P) (w := w) (TInt.und (P := P) (t := kt) (k := .i64)) a
    simp [run_underlying (TMap.und (P := P) (t := t) (k := kt) (e := e)), MapKept.run_getObj_map hb, hc, hf, d']
theorem q_lookI {g : Option (Nat × Bool)} {t kt e k' bytes b : Nat} {z : Value} [TMap P t kt e] [TInt P kt .i64] [TE P e z k' bytes] {l : List (Int × Value)} {k : Int} (hx : ev σ x = some (.map (some b))) (hy : ev σ y = some (.int .i64 k)) (hb : MapI w b l) :
    DoesQ P ⟨some d, .lookup t x y false, ty, pos, af, g⟩ σ w ((lookI l k).getD z) := ⟨fun w2 he => ⟨fun m c hf => by
    simp [execOp, fits_ev hf hx, fits_ev hf hy, run_lookI (P := P) (t := t) (kt := kt) (e := e) (z := z) (k' := k') (bytes := bytes) (k := k) (hb.ext he)]⟩⟩
theorem WO_mapUpdate {t kt e b : Nat} [TMap P t kt e] [TInt P kt .i64] {l : List (Int × Value)} {k : Int} (hx : ev σ x = some (.map (some b))) (hy : ev σ y = some (.int .i64 k)) (hv : ev σ s = some v) (hb : MapI w b l)
    (h : ∀ w', MapI w' b (updI l k v) → Only b w w' → WO P n ops Q rest σ w') : WO P n ops Q (⟨none, .mapUpdate t x y s, ty, pos, af, none⟩ :: rest) σ w := by
  obtain ⟨es, clock, hb, hl⟩ := hb
  have hc := MapKept.run_checkKey (P := P) (w := w) (kt := kt) (d := .int .i64) (k := .int .i64 k) (TInt.und (P := P) (t := kt) (k := .i64)) rfl false 9999
  have hon : ∀ o, Only b w { w with heap := w.heap.setIfInBounds b o } := fun o =>
    ⟨rfl, rfl, rfl, by simp, fun i hi => (MapKept.heap_set (o' := o) hb).2 i hi⟩
  rcases find_kv k es.toList l 0 hl with ⟨a, _, u⟩ | ⟨j, e', a, b', c, _, u⟩
  · have hf := MapKept.run_findKey (P := P) (w := w) (TInt.und (P := P) (t := kt) (k := .i64)) a
    refine WO.unit rfl (w' := { w with heap := w.heap.setIfInBounds b (.map (es.push { key := .int .i64 k, val := v, born := clock }) (clock + 1)) }) ⟨fun m c hf' => ?_⟩ rfl
      (h _ ⟨_, _, (MapKept.heap_set hb).1, ?_⟩ (hon _))
    · simp [execOp, fits_ev hf' hx, fits_ev hf' hy, fits_ev hf' hv, Instr.mapUpdate, run_underlying (TMap.und (P := P) (t := t) (k := kt) (e := e)), MapKept.run_getObj_map hb, hc, hf, MapKept.run_setObj_map _ hb]
    · rw [u v]; simp [hl, kvE, kvI]
  · have hf := MapKept.run_findKey (P := P) (w := w) (TInt.und (P := P) (t := kt) (k := .i64)) a
    have hs := MapKept.run_keyThatStays (P := P) (w := w) (d := .int .i64) (k := .int .i64 k) rfl
    refine WO.unit rfl (w' := { w with heap := w.heap.setIfInBounds b (.map (es.modify j fun e => { e with key := .int .i64 k, val := v }) clock) }) ⟨fun m c' hf' => ?_⟩ rfl
      (h _ ⟨_, _, (MapKept.heap_set hb).1, ?_⟩ (hon _))
    · have hj : es[j]? = some e' := by rw [← Array.getElem?_toList]; exact b'
      simp [execOp, fits_ev hf' hx, fits_ev hf' hy, fits_ev hf' hv, Instr.mapUpdate, run_underlying (TMap.und (P := P) (t := t) (k := kt) (e := e)), MapKept.run_getObj_map hb, hc, hf, MapKept.run_setObj_map _ hb, hj, c, hs]
    · rw [← u v]; simp
/-! ### Further operations -/
theorem q_slFrom {g : Option (Nat × Bool)} {t e k len cap l : Nat} {A : Option Addr} {i : Int} [TSl P t e k] (hx : ev σ x = some (.slice A len cap)) (hy : ev σ y = some (.int .i64 i)) (hi : i = (l : Int)) (hl : l ≤ len) (hc : len ≤ cap) :
    DoesQ P ⟨some d, .slice t x (some y) none none, ty, pos, af, g⟩ σ w (.slice (if cap = l then A else A.map (·.add (l * k))) (len - l) (cap - l)) := ⟨fun w2 he => ⟨fun m c hf => by
  subst hi
  have h1 : (l : Int) ≤ (len : Int) := by omega
  have h2 : ¬ len < l := by omega
  simp [execOp, fits_ev hf hx, fits_ev hf hy, Instr.sliceAt, Instr.slice, run_underlying (TSl.und (P := P) (t := t) (e := e) (k := k)), Instr.sliceBounds, Instr.sliceBound, asIntOf, h1, h2, TSl.run_sizeOf (P := P) (t := t) (e := e) (k := k) inferInstance]⟩⟩
theorem run_equalIn_slNil (j : Nat) {t e k len cap a b : Nat} {A : Option Addr} [TSl P t e k] (w : World) : (Op.equalIn (j + 1) t (.slice A len cap) (.slice none a b)).run P w = .ok A.isNone w := by
  cases A <;> simp [Op.equalIn, run_underlying (TSl.und (P := P) (t := t) (e := e) (k := k))]
theorem q_slNil {g : Option (Nat × Bool)} {t e k len cap a b : Nat} {A : Option Addr} {t' : TypeId} [TSl P t e k] (hx : ev σ x = some (.slice A len cap)) :
    DoesQ P ⟨some d, .binOp .eql t x (.const (.slice none a b)) t', ty, pos, af, g⟩ σ w (.bool A.isNone) := ⟨fun w2 he => ⟨fun m c hf => by
  have hr : (Op.equal t (.slice A len cap) (.slice none a b)).run P w2 = .ok A.isNone w2 := run_equalIn_slNil 9999 w2
  have hy : ev σ (.const (.slice none a b)) = some (.slice none a b) := rfl
  simp [execOp, fits_ev hf hx, fits_ev hf hy, binOp, eqGuard, hr]⟩⟩
theorem q_makeFunc {g : Option (Nat × Bool)} {f : FuncId} {first captured : Array Operand} {fv cv : List Value} (h1 : evs σ first.toList = some fv) (h2 : evs σ captured.toList = some cv) :
    DoesQ P ⟨some d, .makeFunc (.func f) first captured, ty, pos, af, g⟩ σ w (.func (.func f) fv.toArray cv.toArray) := ⟨fun w2 he => ⟨fun m c hf => by
  have e1 : first.map c.eval = fv.toArray := by rw [← fits_evs hf h1, ← Array.toList_map, Array.toArray_toList]
  have e2 : captured.map c.eval = cv.toArray := by rw [← fits_evs hf h2, ← Array.toList_map, Array.toArray_toList]
  simp [execOp, Instr.makeFunc, e1, e2]⟩⟩
end
section
variable {P : Program} {n : Nat} {σ : Env} {w : World} {fn : Func} {Post : Value → World → Prop}
theorem at_retC {a b : Nat} {t : TypeId} {k : Nat} {cs : List Value} {t' : TypeId} [TS P t k] (hr : fn.results = #[.cell a t]) (hv : look σ a = some (.pointer (some ⟨b, 0, none⟩))) (hb : Blk w b cs t') (hl : cs.length = k) (h : Post (.agg cs.toArray) w) :
    AtQ n (bodyPost P fn fun e w' => ∃ v, e = .returned v ∧ Post v w') .ret σ w := ⟨fun c hf =>
  ⟨hf.defers, .agg cs.toArray, by
    have hrun := run_loadVar_cells (P := P) (t := t) (w := w) (b := b) (o := 0) hl (fun j u hu => by rw [Nat.zero_add]; exact hb.cell hu)
    simp [results, hr, hf.has a _ hv, asAddr, hrun], _, rfl, h⟩⟩
end
end Go.Proofs.YtnfapbghkmodeaaDoor
