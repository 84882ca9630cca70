/-
  What is proved here: operations on strings, said of lists of bytes. No function of the program stands here.
-/
import Derived.Test.YtnfapbghkmodeaaDoorMem
import Derived.Laws.IdiomStrings
import Derived.Lib.Strings
namespace Go.Proofs.YtnfapbghkmodeaaDoor
set_option linter.unusedVariables false
set_option linter.unusedSimpArgs false
set_option linter.unnecessarySimpa false
open Go.RowKit

/-- A string by its bytes. -/
abbrev sV (l : List UInt8) : Value := .string ⟨l.toArray⟩
theorem ba_list (l : List UInt8) : (⟨l.toArray⟩ : ByteArray).toList = l := by rw [Lib.toList_data]
theorem ba_size (l : List UInt8) : (⟨l.toArray⟩ : ByteArray).size = l.length := rfl
theorem ba_get (l : List UInt8) (j : Nat) : (⟨l.toArray⟩ : ByteArray)[j]? = l[j]? := by
  by_cases h : j < l.length
  · rw [List.getElem?_eq_getElem h]
    have h' : j < (⟨l.toArray⟩ : ByteArray).size := h
    rw [getElem?_pos (⟨l.toArray⟩ : ByteArray) j h']
    rfl
  · rw [List.getElem?_eq_none (by omega)]
    have h' : ¬ j < (⟨l.toArray⟩ : ByteArray).size := h
    exact getElem?_neg (⟨l.toArray⟩ : ByteArray) j h'
theorem ba_append (a b : List UInt8) : (⟨a.toArray⟩ : ByteArray) ++ (⟨b.toArray⟩ : ByteArray) = (⟨(a ++ b).toArray⟩ : ByteArray) := by
  rw [← Lib.mk_data ((⟨a.toArray⟩ : ByteArray) ++ (⟨b.toArray⟩ : ByteArray))]
  rw [ByteArray.data_append]
  simp
theorem sV_inj {a b : List UInt8} (h : sV a = sV b) : a = b := by
  injection h with h
  have := congrArg ByteArray.toList h
  rwa [ba_list, ba_list] at this
section
variable {P : Program} {n : Nat} {ops : Array Oper} {Q : Exit → Act → World → Prop} {rest : List Oper} {σ : Env} {w w' : World} {v u : Value}
variable {d : Nat} {ty : TypeId} {pos : String} {af : Array Edge} {x y z : Operand}
theorem Z87 {g : Option (Nat × Bool)} {t t' : TypeId} {a b : List UInt8} (hx : ev σ x = some (sV a)) (hy : ev σ y = some (sV b)) (hl : a.length + b.length ≤ 1000000000000) :
    DoesQ P ⟨some d, .binOp .add t x y t', ty, pos, af, g⟩ σ w (sV (a ++ b)) := ⟨fun w2 he => ⟨fun m c hf => by
  have h1 : ¬ (((⟨a.toArray⟩ : ByteArray).size + (⟨b.toArray⟩ : ByteArray).size : Nat) : Int) > IntKind.i64.max := by
    rw [ba_size, ba_size]
    have : IntKind.i64.max = 9223372036854775807 := rfl
    rw [this]
    omega
  have h2 := ba_append a b
  simp [execOp, fits_ev hf hx, fits_ev hf hy, binOp, eqGuard, Op.stringOp, h2]
  rw [ba_size, ba_size]
  omega⟩⟩
theorem Z85 {g : Option (Nat × Bool)} {t t' : TypeId} {a b : List UInt8} (hx : ev σ x = some (sV a)) (hy : ev σ y = some (sV b)) :
    DoesQ P ⟨some d, .binOp .eql t x y t', ty, pos, af, g⟩ σ w (.bool (decide (a = b))) := ⟨fun w2 he => ⟨fun m c hf => by
  simp [execOp, fits_ev hf hx, fits_ev hf hy, binOp, eqGuard, Op.stringOp, ba_list]
  rw [Bool.eq_iff_iff]
  simp⟩⟩
theorem Z86 {g : Option (Nat × Bool)} {t t' : TypeId} {a b : List UInt8} (hx : ev σ x = some (sV a)) (hy : ev σ y = some (sV b)) :
    DoesQ P ⟨some d, .binOp .neq t x y t', ty, pos, af, g⟩ σ w (.bool (!decide (a = b))) := ⟨fun w2 he => ⟨fun m c hf => by
  simp [execOp, fits_ev hf hx, fits_ev hf hy, binOp, eqGuard, Op.stringOp, ba_list]
  rw [Bool.eq_iff_iff]
  simp⟩⟩
theorem Z88 {g : Option (Nat × Bool)} {t : TypeId} {a : List UInt8} [TStr P t] (hx : ev σ x = some (sV a)) : DoesQ P ⟨some d, .call ⟨.builtin .len, #[x], #[t]⟩, ty, pos, af, g⟩ σ w (.int .i64 (a.length : Int)) := Z73 hx
theorem q_strAt {g : Option (Nat × Bool)} {t : TypeId} [TStr P t] {s : List UInt8} {i : Int} {j : Nat} (hx : ev σ x = some (sV s)) (hy : ev σ y = some (.int .i64 i)) (hj : i = (j : Int)) (hb : j < s.length) :
    DoesQ P ⟨some d, .index t x y, ty, pos, af, g⟩ σ w (.int .u8 (s[j].toNat : Int)) := q_index hx hy hj (by rw [ba_get, List.getElem?_eq_getElem hb])
/-- s[l:h], s[l:], s[:h] of a string. -/
theorem q_strSl {g : Option (Nat × Bool)} {t : TypeId} [TStr P t] {s : List UInt8} {i j : Int} {l h : Nat} (hx : ev σ x = some (sV s)) (hy : ev σ y = some (.int .i64 i)) (hz : ev σ z = some (.int .i64 j)) (hi : i = (l : Int)) (hj : j = (h : Int)) (hl : l ≤ h) (hh : h ≤ s.length) :
    DoesQ P ⟨some d, .slice t x (some y) (some z) none, ty, pos, af, g⟩ σ w (sV ((s.drop l).take (h - l))) := ⟨fun w2 he => ⟨fun m c hf => by
  subst hi; subst hj
  have h1 : (l : Int) ≤ (h : Int) := by omega
  have h2 : ¬ h < l := by omega
  have h3 : (h : Int) ≤ (s.length : Int) := by omega
  have h4 : ¬ s.length < h := by omega
  have h5 : (⟨s.toArray⟩ : ByteArray).extract l h = ⟨((s.drop l).take (h - l)).toArray⟩ := by rw [Lib.extract_eq]
  simp [execOp, fits_ev hf hx, fits_ev hf hy, fits_ev hf hz, Instr.sliceAt, Instr.slice, run_underlying (TStr.und (P := P) (t := t)), Instr.sliceBounds, Instr.sliceBound, asIntOf, ba_size, h1, h2, h3, h4, hl, hh, h5]⟩⟩
theorem q_strFrom {g : Option (Nat × Bool)} {t : TypeId} [TStr P t] {s : List UInt8} {i : Int} {l : Nat} (hx : ev σ x = some (sV s)) (hy : ev σ y = some (.int .i64 i)) (hi : i = (l : Int)) (hl : l ≤ s.length) :
    DoesQ P ⟨some d, .slice t x (some y) none none, ty, pos, af, g⟩ σ w (sV (s.drop l)) := ⟨fun w2 he => ⟨fun m c hf => by
  subst hi
  have h1 : (l : Int) ≤ (s.length : Int) := by omega
  have h2 : ¬ s.length < l := by omega
  have h5 : (⟨s.toArray⟩ : ByteArray).extract l s.length = ⟨(s.drop l).toArray⟩ := by
    rw [Lib.extract_eq]
    congr 2
    rw [List.take_of_length_le (by simp)]
  simp [execOp, fits_ev hf hx, fits_ev hf hy, Instr.sliceAt, Instr.slice, run_underlying (TStr.und (P := P) (t := t)), Instr.sliceBounds, Instr.sliceBound, asIntOf, ba_size, h1, h2, hl, h5]⟩⟩
/-- string(b) of bytes in memory. -/
theorem q_bytesStr {g : Option (Nat × Bool)} {s t e : TypeId} [TSl P s e 1] [TInt P e .u8] [TStr P t] {a : Addr} {cap : Nat} (l : List UInt8) (hx : ev σ x = some (.slice (some a) l.length cap)) (hc : ∀ j (hj : j < l.length), w.cell? (a.add j) = some (.int .u8 (l[j].toNat : Int))) :
    DoesQ P ⟨some d, .convert s t x, ty, pos, af, g⟩ σ w (sV l) := ⟨fun w2 he => ⟨fun m c hf => by
  have := run_convert_bytes_back (P := P) w2 s t e a cap l (TSl.und (P := P) (t := s) (e := e) (k := 1)) (TInt.und (P := P) (t := e) (k := .u8)) (TStr.und (P := P) (t := t)) (fun j hj => cell_ext (hc j hj) he)
  simp [execOp, fits_ev hf hx, this]⟩⟩
/-- A byte out of a number, and back. -/
theorem q_toByte {g : Option (Nat × Bool)} {s t : TypeId} {a : Int} [TInt P s .i64] [TInt P t .u8] (hx : ev σ x = some (.int .i64 a)) (h : 0 ≤ a ∧ a < 256) : DoesQ P ⟨some d, .convert s t x, ty, pos, af, g⟩ σ w (.int .u8 a) :=
  Z28 (k := .u8) (ks := .i64) hx (by rw [IntKind.wrap_u8]; omega)
theorem q_addU8 {g : Option (Nat × Bool)} {t t' : TypeId} {a b : Int} (hx : ev σ x = some (.int .u8 a)) (hy : ev σ y = some (.int .u8 b)) (h : 0 ≤ a + b ∧ a + b < 256) : DoesQ P ⟨some d, .binOp .add t x y t', ty, pos, af, g⟩ σ w (.int .u8 (a + b)) := ⟨fun w2 he => ⟨fun m c hf => by
  have : IntKind.u8.wrap (a + b) = a + b := by rw [IntKind.wrap_u8]; omega
  simp [execOp, fits_ev hf hx, fits_ev hf hy, binOp, eqGuard, Op.intArith, this]⟩⟩
theorem q_subU8 {g : Option (Nat × Bool)} {t t' : TypeId} {a b : Int} (hx : ev σ x = some (.int .u8 a)) (hy : ev σ y = some (.int .u8 b)) (h : 0 ≤ a - b ∧ a - b < 256) : DoesQ P ⟨some d, .binOp .sub t x y t', ty, pos, af, g⟩ σ w (.int .u8 (a - b)) := ⟨fun w2 he => ⟨fun m c hf => by
  have : IntKind.u8.wrap (a - b) = a - b := by rw [IntKind.wrap_u8]; omega
  simp [execOp, fits_ev hf hx, fits_ev hf hy, binOp, eqGuard, Op.intArith, this]⟩⟩
theorem q_fromByte {g : Option (Nat × Bool)} {s t : TypeId} {a : Int} [TInt P s .u8] [TInt P t .i64] (hx : ev σ x = some (.int .u8 a)) (h : 0 ≤ a ∧ a < 256) : DoesQ P ⟨some d, .convert s t x, ty, pos, af, g⟩ σ w (.int .i64 a) :=
  Z28 (k := .i64) (ks := .u8) hx (Z53 ⟨by omega, by omega⟩)
/-- string([]byte{..}) of one byte. -/
theorem WO_byteStr {t e bytes d1 : Nat} {z : Value} {ty1 : TypeId} {pos1 : String} {af1 : Array Edge} {s : TypeId} {b : UInt8} {i : Int} [TSl P t e 1] [TE P e z 1 bytes] [TInt P e .u8] [TStr P s] (hx : ev σ x = some (.int .u8 i)) (hi : i = (b.toNat : Int))
    (h : ∀ w', Ext w w' → w'.heap.size = w.heap.size + 1 → WO P n ops Q rest ((d, sV [b]) :: (d1, .slice (some ⟨w.heap.size, 0, none⟩) 1 1) :: σ) w') :
    WO P n ops Q (⟨some d1, .buildSlice t 1 #[(0, x)], ty1, pos1, af1, none⟩ :: ⟨some d, .convert t s (.tmp d1), ty, pos, af, none⟩ :: rest) σ w := by
  refine WO_build (e := e) (k := 1) (z := z) (bytes := bytes) [x] (vs := [.int .u8 i]) (cs := [.int .u8 i]) rfl (by simp [evs, hx]) rfl (by decide) (by decide) (by intro v hv; simp at hv; subst hv; rfl) rfl fun w1 hb1 he1 hz1 => ?_
  refine Z13 (q_bytesStr (e := e) [b] (look_cons_same _ _ _) (fun j hj => ?_)) (h w1 he1 hz1)
  have : j = 0 := by simp at hj; omega
  subst this
  rw [add_some]
  exact hb1.cell (by simp [hi])
end
end Go.Proofs.YtnfapbghkmodeaaDoor
