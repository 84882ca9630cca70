/-
  What is proved here: the operations that make memory (slice literals, make, append), and what a slice holds, as predicates on worlds. No function of the program stands here.
-/
import Derived.Test.YtnfapbghkmodeaaDoorTypes
import Derived.Great.FillDense
import Derived.Great.BuildSlice
import Derived.Laws.MakeOwn
namespace Go.Proofs.YtnfapbghkmodeaaDoor
set_option linter.unusedVariables false
set_option linter.unusedSimpArgs false
set_option linter.unnecessarySimpa false
open Go.RowKit

section
variable {P : Program} {n : Nat} {ops : Array Oper} {Q : Exit → Act → World → Prop} {rest : List Oper} {σ : Env} {w w' : World} {v u : Value}
variable {d : Nat} {ty : TypeId} {pos : String} {af : Array Edge} {x y s : Operand}

theorem TE.row {e : TypeId} {z : Value} {k bytes : Nat} (h : TE P e z k bytes) : ∃ i, P.info? e = some i ∧ i.zero = some z ∧ i.size = k ∧ i.bytes = bytes := by
  have := h.info
  cases hi : P.info? e with
  | none => simp [hi] at this
  | some i => simp [hi] at this; exact ⟨i, rfl, this.1, this.2.1, this.2.2⟩

/-- A slice literal without elements. -/
theorem WO_build0 {t e k : Nat} [TSl P t e k]
    (h : ∀ w', Blk w' w.heap.size [] e → Ext w w' → w'.heap.size = w.heap.size + 1 → WO P n ops Q rest ((d, .slice (some ⟨w.heap.size, 0, none⟩) 0 0) :: σ) w') :
    WO P n ops Q (⟨some d, .buildSlice t 0 #[], ty, pos, af, none⟩ :: rest) σ w :=
  WO.value rfl (w' := w.alloc (.cells #[] e)) ⟨fun m c hf => by
    have hr : (Array.range 0).map (fun _ : Nat => (default : Value)) = #[] := by simp [Array.range]
    simp [execOp, Instr.buildSlice, run_underlying (TSl.und (P := P) (t := t) (e := e) (k := k)), TSl.run_sizeOf (P := P) (t := t) (e := e) (k := k) inferInstance, Instr.fill, newRow, hr]⟩
    (h _ (Blk.alloc w #[] e) (ext_alloc w _) (by simp))

theorem parts_run {a : Act} (hf : Fits n σ a) {parts : List (Nat × Operand)} {xs : List Operand} {vs : List Value} (hp : parts = (xs.zipIdx 0).map fun x => (x.2, x.1)) (hv : evs σ xs = some vs) :
    (parts.map fun (i, x) => (i, a.eval x)) = (vs.zipIdx 0).map fun x => (x.2, x.1) := by
  have h1 := fits_evs hf hv
  subst hp
  rw [← h1, List.zipIdx_map, List.map_map, List.map_map]
  rfl

/-- A slice literal whose elements are all given, in order. -/
theorem WO_build {t e k bytes len : Nat} {z : Value} [TSl P t e k] [TE P e z k bytes] {parts : Array (Nat × Operand)} (xs : List Operand) {vs cs : List Value}
    (hp : parts.toList = (xs.zipIdx 0).map fun x => (x.2, x.1)) (hv : evs σ xs = some vs) (hlen : vs.length = len) (hpos : Nat.ble 1 (len * k) = true) (hsmall : Nat.ble (len * k) 16777216 = true)
    (hk : ∀ v ∈ vs, v.cells.size = k) (hcs : (vs.flatMap fun v => v.cells.toList) = cs)
    (h : ∀ w', Blk w' w.heap.size cs e → Ext w w' → w'.heap.size = w.heap.size + 1 → WO P n ops Q rest ((d, .slice (some ⟨w.heap.size, 0, none⟩) len len) :: σ) w') :
    WO P n ops Q (⟨some d, .buildSlice t len parts, ty, pos, af, none⟩ :: rest) σ w := by
  obtain ⟨i, hi, hz, hsz, _⟩ := TE.row (P := P) (e := e) (z := z) (k := k) (bytes := bytes) inferInstance
  have hpos := Nat.le_of_ble_eq_true hpos
  have hsmall := Nat.le_of_ble_eq_true hsmall
  have hkp : 0 < k := by
    rcases Nat.eq_zero_or_pos k with h0 | h0
    · subst h0; simp at hpos
    · exact h0
  refine WO.value rfl (w' := w.alloc (.cells cs.toArray e)) ⟨fun m c hf => ?_⟩ (h _ (by simpa using Blk.alloc w cs.toArray e) (ext_alloc w _) (by simp))
  have hfill := Great.fill_whole hkp vs ((Array.range (len * i.size)).map (z.cells[· % z.cells.size]!)) hk (by simp [hlen, hsz])
  rw [hcs] at hfill
  have e1 : (parts.map fun (i, x) => (i, c.eval x)).toList = (vs.zipIdx 0).map fun x => (x.2, x.1) := by
    rw [Array.toList_map]; exact parts_run hf hp hv
  have hr := run_buildSlice (P := P) w t e len (parts.map fun (i, x) => (i, c.eval x)) cs.toArray i z (TSl.und (P := P) (t := t) (e := e) (k := k)) hi hz (by rw [hsz]; omega) (by rw [hsz]; omega)
    (by rw [e1, ← hfill, hsz])
  simp only [execOp, Sem.run_bind, hr, Result.andThen_ok, Sem.run_pure]

/-- append onto a slice of the call's own. -/
theorem WO_append {t e k bytes B m mm c b o : Nat} {z : Value} [TSl P t e k] [TE P e z k bytes] {xs news : List Value}
    (hs : ev σ s = some v) (hown : w.ownsRow B e k v m xs) (hx : ev σ x = some (.slice (some ⟨b, o, none⟩) mm c)) (hl : news.length = mm * k)
    (hc : ∀ j u, news[j]? = some u → w.cell? ⟨b, o + j, none⟩ = some u) (h1 : ∀ u ∈ news, u.oneCell' = true) (hB : B ≤ w.heap.size) (hk : 0 < k) (hm : m + mm ≤ 1000000000000) (hby : bytes ≤ 100)
    (h : ∀ v' w', w'.ownsRow B e k v' (m + mm) (xs ++ news) → w.grownBy w' v.ownBlock → (v'.ownBlock = v.ownBlock ∨ v'.ownBlock = some w.heap.size) → WO P n ops Q rest ((d, v') :: σ) w') :
    WO P n ops Q (⟨some d, .call ⟨.builtin .append, #[s, x], #[t, t]⟩, ty, pos, af, none⟩ :: rest) σ w := by
  obtain ⟨i, hi, hz, hsz, hb⟩ := TE.row (P := P) (e := e) (z := z) (k := k) (bytes := bytes) inferInstance
  have hbb : (m + mm) * bytes ≤ 140737488355328 := by
    have := Nat.mul_le_mul hm hby
    omega
  obtain ⟨v', w', hr, h2, h3, _, h5⟩ := run_append_own_at (P := P) w B t ty e i z k bytes (TSl.und (P := P) (t := t) (e := e) (k := k)) hi hz hsz hb (TE.cells (P := P) (e := e) (k := k) (bytes := bytes)) hk v m xs hown
    ⟨b, o, none⟩ mm c news hl (fun j u hu => by rw [add_some]; exact hc j u hu) h1 (by simp only [maxLen]; omega) hbb hB
  refine WO.value rfl ⟨fun _ a hf => ?_⟩ (h v' w' h2 h3 h5)
  simp [execOp, resolve, invoke, builtin, fits_ev hf hs, fits_ev hf hx, hr]

/-- One element is appended to a slice of the call's own. -/
theorem WO_app1 {t e k bytes B m d1 : Nat} {ty1 : TypeId} {pos1 : String} {af1 : Array Edge} {z : Value} [TSl P t e k] [TE P e z k bytes] {xs : List Value}
    (hx : ev σ x = some u) (hu : u.cells.size = k) (h1 : ∀ c ∈ u.cells.toList, c.oneCell' = true) (hs : ev ((d1, .slice (some ⟨w.heap.size, 0, none⟩) 1 1) :: σ) s = some v)
    (hown : w.ownsRow B e k v m xs) (hB : B ≤ w.heap.size) (hk : (0 < k && Nat.ble k 1000) = true) (hm : m + 1 ≤ 1000000000000) (hby : bytes ≤ 100)
    (h : ∀ v' w', w'.ownsRow B e k v' (m + 1) (xs ++ u.cells.toList) → w.grownBy w' v.ownBlock → (v'.ownBlock = v.ownBlock ∨ v'.ownBlock = some (w.heap.size + 1)) →
      WO P n ops Q rest ((d, v') :: (d1, .slice (some ⟨w.heap.size, 0, none⟩) 1 1) :: σ) w') :
    WO P n ops Q (⟨some d1, .buildSlice t 1 #[(0, x)], ty1, pos1, af1, none⟩ :: ⟨some d, .call ⟨.builtin .append, #[s, .tmp d1], #[t, t]⟩, ty, pos, af, none⟩ :: rest) σ w := by
  simp only [Bool.and_eq_true, decide_eq_true_eq] at hk
  have hk2 := Nat.le_of_ble_eq_true hk.2
  refine WO_build (e := e) (k := k) [x] (cs := u.cells.toList) (vs := [u]) rfl (by simp [evs, hx]) rfl (by rw [Nat.ble_eq]; omega) (by rw [Nat.ble_eq]; omega) (by simp [hu]) (by simp) fun w1 hb1 he1 hz1 => ?_
  have hown1 : w1.ownsRow B e k v m xs := hown.kept (row := none) ⟨he1.os, he1.tape, he1.output, he1.size, fun j hj _ => he1.block j hj⟩ (by
    cases hv : v.ownBlock with
    | none => exact .inl rfl
    | some q => exact .inr (by simp))
  refine WO_append (B := B) (b := w.heap.size) (o := 0) (mm := 1) (c := 1) (news := u.cells.toList) hs hown1 (look_cons_same _ _ _) (by simp [hu]) (fun j c hc => by rw [Nat.zero_add]; exact hb1.cell hc) h1 (by omega) hk.1 hm hby
    fun v' w' h2 h3 h4 => h v' w' h2 ⟨h3.os.trans he1.os, h3.tape.trans he1.tape, h3.output.trans he1.output, Nat.le_trans he1.size h3.size, fun j hj hne => (h3.block j (Nat.lt_of_lt_of_le hj he1.size) hne).trans (he1.block j hj)⟩ (by rw [hz1] at h4; exact h4)

/-- What a growing slice leaves alone. -/
theorem ext_grown {w0 w w' : World} {row : Option Nat} (h : Ext w0 w) (hg : w.grownBy w' row) (hr : ∀ k, row = some k → w0.heap.size ≤ k) : Ext w0 w' := Below.grown h hg h.size hr
theorem Blk.grown {b : Nat} {cs : List Value} {t : TypeId} {row : Option Nat} (h : Blk w b cs t) (hg : w.grownBy w' row) (hne : some b ≠ row) : Blk w' b cs t := (hg.block b h.lt hne).trans h
theorem cell_grown {a : Addr} {row : Option Nat} (h : w.cell? a = some v) (hg : w.grownBy w' row) (hne : some a.block ≠ row) : w'.cell? a = some v := hg.cell h hne
theorem ownsRow_ext {B e k m : Nat} {xs : List Value} (h : w.ownsRow B e k v m xs) (he : Ext w w') : w'.ownsRow B e k v m xs := h.kept (row := none) ⟨he.os, he.tape, he.output, he.size, fun j hj _ => he.block j hj⟩ (by
    cases hv : v.ownBlock with
    | none => exact .inl rfl
    | some q => exact .inr (by simp))
theorem ownsRow_only {B e k m c : Nat} {xs : List Value} (h : w.ownsRow B e k v m xs) (ho : Only c w w') (hne : v.ownBlock ≠ some c) : w'.ownsRow B e k v m xs :=
  h.kept (row := some c) ⟨ho.os, ho.tape, ho.output, by rw [ho.size]; exact Nat.le_refl _, fun j _ hj => ho.block j (fun e => hj (by rw [e]))⟩ (.inr hne)
/-- An empty slice of the call's own. -/
theorem owns_build0 {B e k : Nat} (hb : Blk w u.cells.size [] e) (hB : B ≤ u.cells.size) : w.ownsRow B e k (.slice (some ⟨u.cells.size, 0, none⟩) 0 0) 0 [] :=
  ⟨by simp, .inr ⟨_, 0, #[], rfl, hB, hb, Nat.le_refl _, Nat.zero_le _, by simp, by simp⟩⟩
theorem owns_empty {b B e k : Nat} (hb : Blk w b [] e) (hB : B ≤ b) : w.ownsRow B e k (.slice (some ⟨b, 0, none⟩) 0 0) 0 [] :=
  ⟨by simp, .inr ⟨_, 0, #[], rfl, hB, hb, Nat.le_refl _, Nat.zero_le _, by simp, by simp⟩⟩
theorem owns_blk {b B e k m : Nat} {xs : List Value} (hb : Blk w b xs e) (hB : B ≤ b) (hl : xs.length = m * k) (hm : m ≤ maxLen) : w.ownsRow B e k (.slice (some ⟨b, 0, none⟩) m m) m xs :=
  ⟨hl, .inr ⟨_, m, xs.toArray, rfl, hB, hb, Nat.le_refl _, hm, by simp [hl], by simp [← hl]⟩⟩

/-- make([]T, n): the cells are zero. -/
theorem made_list (z : Array Value) (m : Nat) (hz : 0 < z.size) : (madeCells z (m * z.size)).toList = (List.replicate m z.toList).flatten := by
  apply List.ext_getElem?
  intro i
  unfold madeCells
  simp only [Array.toList_map, Array.toList_range, List.getElem?_map]
  by_cases hi : i < m * z.size
  · rw [List.getElem?_range hi]
    have h1 : ∀ (m i : Nat), i < m * z.size → (List.replicate m z.toList).flatten[i]? = some z[i % z.size]! := by
      intro m
      induction m with
      | zero => intro i hi; simp at hi
      | succ m ih =>
        intro i hi
        rw [List.replicate_succ, List.flatten_cons]
        by_cases hlt : i < z.size
        · rw [List.getElem?_append_left (by simpa using hlt), Nat.mod_eq_of_lt hlt]
          simp [hlt]
        · rw [List.getElem?_append_right (by simpa using hlt)]
          rw [Nat.succ_mul] at hi
          have := ih (i - z.toList.length) (by simp; omega)
          rw [this]
          simp only [Array.length_toList]
          rw [show i % z.size = (i - z.size) % z.size from (Nat.mod_eq_sub_mod (by omega))]
    rw [h1 m i hi]
    rfl
  · rw [List.getElem?_eq_none (by simp; omega), List.getElem?_eq_none (by simp; omega)]
    rfl
theorem WO_make {t e k bytes m : Nat} {z : Value} [TSl P t e k] [TE P e z k bytes] {i j : Int}
    (hx : ev σ x = some (.int .i64 i)) (hy : ev σ y = some (.int .i64 j)) (hi : i = (m : Int)) (hj : j = (m : Int)) (hm : m ≤ 1000000000000) (hk : 0 < k) (hby : bytes ≤ 100)
    (h : ∀ w', Blk w' w.heap.size (List.replicate m z.cells.toList).flatten e → Ext w w' → w'.heap.size = w.heap.size + 1 → WO P n ops Q rest ((d, .slice (some ⟨w.heap.size, 0, none⟩) m m) :: σ) w') :
    WO P n ops Q (⟨some d, .makeSlice t x y, ty, pos, af, none⟩ :: rest) σ w := by
  obtain ⟨r, hr, hz, hsz, hb⟩ := TE.row (P := P) (e := e) (z := z) (k := k) (bytes := bytes) inferInstance
  have hbb : bytes * m ≤ 281474976710656 := by
    have := Nat.mul_le_mul hby hm
    omega
  have hbi : (r.bytes : Int) * (m : Int) ≤ 281474976710656 := by
    rw [hb]
    have h : ((bytes * m : Nat) : Int) ≤ 281474976710656 := by omega
    rwa [Int.natCast_mul] at h
  have hrun := run_make (P := P) w t e r z (TSl.und (P := P) (t := t) (e := e) (k := k)) hr hz .i64 .i64 (m : Int) (m : Int) (by omega) (Int.le_refl _) hbi (by omega)
  have hzc : z.cells.size = k := TE.cells (P := P) (e := e) (k := k) (bytes := bytes)
  rw [Int.toNat_natCast, hsz, ← hzc] at hrun
  have hml := made_list z.cells m (by omega)
  subst hi
  subst hj
  exact WO.value rfl (w' := w.alloc (.cells (madeCells z.cells (m * z.cells.size)) e)) ⟨fun _ a hf => by simp [execOp, fits_ev hf hx, fits_ev hf hy, hrun]⟩ (h _ (by rw [← hml]; exact Blk.alloc w _ e) (ext_alloc w _) (by simp))
end
end Go.Proofs.YtnfapbghkmodeaaDoor
