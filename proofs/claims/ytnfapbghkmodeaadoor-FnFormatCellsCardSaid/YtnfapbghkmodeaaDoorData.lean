/-
  What is proved here: what it is for memory to hold data with depth (statements, cells, tags), as predicates on worlds with the blocks that are met; that they are kept; struct literals.
-/
import Derived.Test.YtnfapbghkmodeaaDoorInts
namespace Go.Proofs.YtnfapbghkmodeaaDoor
set_option linter.unusedVariables false
set_option linter.unusedSimpArgs false
set_option linter.unnecessarySimpa false
open Go.RowKit

/-- The cells of a row, one after the other; a slice's own cells hang below it. -/
inductive Cs where
  | nil
  | int (n : Int) (r : Cs)
  | bool (b : Bool) (r : Cs)
  | sl (m : Nat) (c r : Cs)

/-- A slice value of m elements whose cells S tells. -/
def SlV (S : Nat → Nat → List Nat → Prop) (m : Nat) (v : Value) (F : List Nat) : Prop :=
  ∃ A c, v = .slice A m c ∧ (m ≤ maxI * 2 - 1 ∧ m ≤ c) ∧ ((m = 0 ∧ F = []) ∨ ∃ b o F', A = some ⟨b, o, none⟩ ∧ F = b :: F' ∧ S b o F')
def CsAt (w : World) : Cs → Nat → Nat → List Nat → Prop
  | .nil, _, _, F => F = []
  | .int n r, b, o, F => w.cell? ⟨b, o, none⟩ = some (.int .i64 n) ∧ CsAt w r b (o + 1) F
  | .bool p r, b, o, F => w.cell? ⟨b, o, none⟩ = some (.bool p) ∧ CsAt w r b (o + 1) F
  | .sl m c r, b, o, F => ∃ v F1 F2, F = F1 ++ F2 ∧ w.cell? ⟨b, o, none⟩ = some v ∧ SlV (CsAt w c) m v F1 ∧ CsAt w r b (o + 1) F2
/-- The same, and each block is known whole: it may be written. -/
def OSlV (w : World) (S : List Value → Nat → List Nat → Prop) (m : Nat) (v : Value) (F : List Nat) : Prop :=
  ∃ A c, v = .slice A m c ∧ (m ≤ maxI * 2 - 1 ∧ m ≤ c) ∧ ((m = 0 ∧ F = []) ∨ ∃ b o cs t F', A = some ⟨b, o, none⟩ ∧ F = b :: F' ∧ Blk w b cs t ∧ S cs o F')
def OCs (w : World) : Cs → List Value → Nat → List Nat → Prop
  | .nil, _, _, F => F = []
  | .int n r, cs, o, F => cs[o]? = some (.int .i64 n) ∧ OCs w r cs (o + 1) F
  | .bool p r, cs, o, F => cs[o]? = some (.bool p) ∧ OCs w r cs (o + 1) F
  | .sl m c r, cs, o, F => ∃ v F1 F2, F = F1 ++ F2 ∧ cs[o]? = some v ∧ OSlV w (OCs w c) m v F1 ∧ OCs w r cs (o + 1) F2

theorem SlV.mono {S S' : Nat → Nat → List Nat → Prop} {m : Nat} {v : Value} {F : List Nat} (h : SlV S m v F) (hs : ∀ b o F', (∀ x ∈ F', x ∈ F) → b ∈ F → S b o F' → S' b o F') : SlV S' m v F := by
  obtain ⟨A, c, rfl, hm, h | ⟨b, o, F', rfl, rfl, h⟩⟩ := h
  · exact ⟨A, c, rfl, hm, .inl h⟩
  · exact ⟨_, c, rfl, hm, .inr ⟨b, o, F', rfl, rfl, hs b o F' (fun x hx => List.mem_cons_of_mem _ hx) (List.mem_cons_self) h⟩⟩

section
variable {w w' : World} {G : List Nat}
theorem CsAt.chg (k : Chg G w w') : ∀ (c : Cs) (b o : Nat) (F : List Nat), (∀ x ∈ F, x ∉ G) → b ∉ G → CsAt w c b o F → CsAt w' c b o F
  | .nil, _, _, _, _, _, h => h
  | .int _ r, b, o, F, hF, hb, h => ⟨cell_chg h.1 k hb, CsAt.chg k r b (o + 1) F hF hb h.2⟩
  | .bool _ r, b, o, F, hF, hb, h => ⟨cell_chg h.1 k hb, CsAt.chg k r b (o + 1) F hF hb h.2⟩
  | .sl m c r, b, o, F, hF, hb, ⟨v, F1, F2, e, hc, hs, hr⟩ => by
    subst e
    refine ⟨v, F1, F2, rfl, cell_chg hc k hb, hs.mono fun b' o' F' h1 h2 h3 => ?_, CsAt.chg k r b (o + 1) F2 (fun x hx => hF x (by simp [hx])) hb hr⟩
    exact CsAt.chg k c b' o' F' (fun x hx => hF x (by simp [h1 x hx])) (hF b' (by simp [h2])) h3
theorem OCs.chg (k : Chg G w w') : ∀ (c : Cs) (cs : List Value) (o : Nat) (F : List Nat), (∀ x ∈ F, x ∉ G) → OCs w c cs o F → OCs w' c cs o F
  | .nil, _, _, _, _, h => h
  | .int _ r, cs, o, F, hF, h => ⟨h.1, OCs.chg k r cs (o + 1) F hF h.2⟩
  | .bool _ r, cs, o, F, hF, h => ⟨h.1, OCs.chg k r cs (o + 1) F hF h.2⟩
  | .sl m c r, cs, o, F, hF, ⟨v, F1, F2, e, hc, hs, hr⟩ => by
    subst e
    refine ⟨v, F1, F2, rfl, hc, ?_, OCs.chg k r cs (o + 1) F2 (fun x hx => hF x (by simp [hx])) hr⟩
    obtain ⟨A, cap, rfl, hm, h | ⟨b, o', cs', t, F', rfl, rfl, hb, h⟩⟩ := hs
    · exact ⟨A, cap, rfl, hm, .inl h⟩
    · exact ⟨_, cap, rfl, hm, .inr ⟨b, o', cs', t, F', rfl, rfl, hb.chg k (hF b (by simp)), OCs.chg k c cs' o' F' (fun x hx => hF x (by simp [hx])) h⟩⟩
theorem OSlV.chg {c : Cs} {m : Nat} {v : Value} {F : List Nat} (h : OSlV w (OCs w c) m v F) (k : Chg G w w') (hd : ∀ x ∈ F, x ∉ G) : OSlV w' (OCs w' c) m v F := by
  obtain ⟨A, cap, rfl, hm, h | ⟨b, o', cs', t, F', rfl, rfl, hb, h⟩⟩ := h
  · exact ⟨A, cap, rfl, hm, .inl h⟩
  · exact ⟨_, cap, rfl, hm, .inr ⟨b, o', cs', t, F', rfl, rfl, hb.chg k (hd b (by simp)), OCs.chg k c cs' o' F' (fun x hx => hd x (by simp [hx])) h⟩⟩
theorem SlV.chg {c : Cs} {m : Nat} {v : Value} {F : List Nat} (h : SlV (CsAt w c) m v F) (k : Chg G w w') (hd : ∀ x ∈ F, x ∉ G) : SlV (CsAt w' c) m v F :=
  h.mono fun b o F' h1 h2 h3 => CsAt.chg k c b o F' (fun x hx => hd x (h1 x hx)) (hd b h2) h3
theorem SlV.ext {c : Cs} {m : Nat} {v : Value} {F : List Nat} (h : SlV (CsAt w c) m v F) (he : Ext w w') : SlV (CsAt w' c) m v F := h.chg (he.chg []) (by simp)
theorem OSlV.ext {c : Cs} {m : Nat} {v : Value} {F : List Nat} (h : OSlV w (OCs w c) m v F) (he : Ext w w') : OSlV w' (OCs w' c) m v F := h.chg (he.chg []) (by simp)
theorem CsAt.ext (he : Ext w w') (c : Cs) (b o : Nat) (F : List Nat) (h : CsAt w c b o F) : CsAt w' c b o F := CsAt.chg (he.chg []) c b o F (by simp) (by simp) h
theorem OCs.lt : ∀ (c : Cs) (cs : List Value) (o : Nat) (F : List Nat), OCs w c cs o F → ∀ x ∈ F, x < w.heap.size
  | .nil, _, _, F, h => by simp only [OCs] at h; subst h; simp
  | .int _ r, cs, o, F, h => OCs.lt r cs (o + 1) F h.2
  | .bool _ r, cs, o, F, h => OCs.lt r cs (o + 1) F h.2
  | .sl m c r, cs, o, F, ⟨v, F1, F2, e, hc, hs, hr⟩ => by
    subst e
    intro x hx
    rcases List.mem_append.1 hx with hx | hx
    · obtain ⟨A, cap, rfl, hm, ⟨_, rfl⟩ | ⟨b, o', cs', t, F', rfl, rfl, hb, h⟩⟩ := hs
      · simp at hx
      · rcases List.mem_cons.1 hx with rfl | hx
        · exact hb.lt
        · exact OCs.lt c cs' o' F' h x hx
    · exact OCs.lt r cs (o + 1) F2 hr x hx
theorem OSlV.lt {c : Cs} {m : Nat} {v : Value} {F : List Nat} (h : OSlV w (OCs w c) m v F) : ∀ x ∈ F, x < w.heap.size := by
  obtain ⟨A, cap, rfl, hm, ⟨_, rfl⟩ | ⟨b, o', cs', t, F', rfl, rfl, hb, h⟩⟩ := h
  · simp
  · intro x hx
    rcases List.mem_cons.1 hx with rfl | hx
    · exact hb.lt
    · exact OCs.lt c cs' o' F' h x hx
theorem OCs.at_ : ∀ (c : Cs) (b : Nat) (cs : List Value) (t : TypeId) (o : Nat) (F : List Nat), Blk w b cs t → OCs w c cs o F → CsAt w c b o F
  | .nil, _, _, _, _, _, _, h => h
  | .int _ r, b, cs, t, o, F, hb, h => ⟨hb.cell h.1, OCs.at_ r b cs t (o + 1) F hb h.2⟩
  | .bool _ r, b, cs, t, o, F, hb, h => ⟨hb.cell h.1, OCs.at_ r b cs t (o + 1) F hb h.2⟩
  | .sl m c r, b, cs, t, o, F, hb, ⟨v, F1, F2, e, hc, hs, hr⟩ => by
    refine ⟨v, F1, F2, e, hb.cell hc, ?_, OCs.at_ r b cs t (o + 1) F2 hb hr⟩
    obtain ⟨A, cap, rfl, hm, h | ⟨b', o', cs', t', F', rfl, rfl, hb', h⟩⟩ := hs
    · exact ⟨A, cap, rfl, hm, .inl h⟩
    · exact ⟨_, cap, rfl, hm, .inr ⟨b', o', F', rfl, rfl, OCs.at_ c b' cs' t' o' F' hb' h⟩⟩
theorem OSlV.sl {c : Cs} {m : Nat} {v : Value} {F : List Nat} (h : OSlV w (OCs w c) m v F) : SlV (CsAt w c) m v F := by
  obtain ⟨A, cap, rfl, hm, h | ⟨b', o', cs', t', F', rfl, rfl, hb', h⟩⟩ := h
  · exact ⟨A, cap, rfl, hm, .inl h⟩
  · exact ⟨_, cap, rfl, hm, .inr ⟨b', o', F', rfl, rfl, OCs.at_ c b' cs' t' o' F' hb' h⟩⟩
end

/-! ### Statements -/
/-- A list of statements: its head's fields, the two lists in it, the rest. -/
inductive Ss where
  | nil
  | cons (op x y n : Int) (t e r : Ss)
deriving DecidableEq
def Ss.len : Ss → Nat
  | .nil => 0
  | .cons _ _ _ _ _ _ r => r.len + 1
def encS : Ss → Cs
  | .nil => .nil
  | .cons op x y n t e r => .int op (.int x (.int y (.int n (.sl t.len (encS t) (.sl e.len (encS e) (encS r))))))
/-- The slice holds these statements. -/
def StS (w : World) (v : Value) (l : Ss) (F : List Nat) : Prop := SlV (CsAt w (encS l)) l.len v F
def OStS (w : World) (v : Value) (l : Ss) (F : List Nat) : Prop := OSlV w (OCs w (encS l)) l.len v F
/-- A statement by value. -/
def stV (op x y n : Int) (tv ev : Value) : Value := .agg #[.int .i64 op, .int .i64 x, .int .i64 y, .int .i64 n, tv, ev]
section
variable {w w' : World} {v : Value} {l : Ss} {F G : List Nat}
theorem StS.chg (h : StS w v l F) (k : Chg G w w') (hd : ∀ x ∈ F, x ∉ G) : StS w' v l F := SlV.chg h k hd
theorem StS.ext (h : StS w v l F) (he : Ext w w') : StS w' v l F := SlV.ext h he
theorem OStS.chg (h : OStS w v l F) (k : Chg G w w') (hd : ∀ x ∈ F, x ∉ G) : OStS w' v l F := OSlV.chg h k hd
theorem OStS.ext (h : OStS w v l F) (he : Ext w w') : OStS w' v l F := OSlV.ext h he
theorem OStS.lt (h : OStS w v l F) : ∀ x ∈ F, x < w.heap.size := OSlV.lt h
theorem OStS.st (h : OStS w v l F) : StS w v l F := OSlV.sl h
theorem StS.nil_ (w : World) (A : Option Addr) (c : Nat) : StS w (.slice A 0 c) .nil [] := ⟨A, c, rfl, ⟨by simp [Ss.len], Nat.zero_le _⟩, .inl ⟨rfl, rfl⟩⟩
theorem OStS.nil_ (w : World) (A : Option Addr) (c : Nat) : OStS w (.slice A 0 c) .nil [] := ⟨A, c, rfl, ⟨by simp [Ss.len], Nat.zero_le _⟩, .inl ⟨rfl, rfl⟩⟩
end
theorem Ss.len_zero {l : Ss} (h : l.len = 0) : l = .nil := by
  cases l with
  | nil => rfl
  | cons => simp [Ss.len] at h

/-! ### Struct literals -/
def evP (σ : Env) : List (Nat × Operand) → Option (List (Nat × Value))
  | [] => some []
  | (i, x) :: r => match ev σ x, evP σ r with
    | some v, some vs => some ((i, v) :: vs)
    | _, _ => none
def Z84 : List Value → List (Nat × Value) → List Value
  | cs, [] => cs
  | cs, (i, v) :: r => Z84 (cs.set i v) r
def partsOk (k : Nat) : List (Nat × Value) → Bool
  | [] => true
  | (i, v) :: r => Nat.blt i k && v.oneCell' && partsOk k r
section
variable {P : Program} {n : Nat} {ops : Array Oper} {Q : Exit → Act → World → Prop} {rest : List Oper} {σ : Env} {w w' : World} {v u : Value}
variable {d : Nat} {ty : TypeId} {pos : String} {af : Array Edge} {x y s : Operand}
theorem fits_evP {a : Act} (h : Fits n σ a) : ∀ {xs : List (Nat × Operand)} {vs : List (Nat × Value)}, evP σ xs = some vs → (xs.map fun (i, x) => (i, a.eval x)) = vs
  | [], vs, hv => by simp [evP] at hv; simp [hv]
  | (i, x) :: r, vs, hv => by
    simp only [evP] at hv
    split at hv
    · rename_i v vs' h1 h2
      have hv' := Option.some.inj hv
      subst hv'
      simp [fits_ev h h1]
      exact fits_evP h h2
    · cases hv
theorem places_of : ∀ (fs : List Field) (i : Nat), fieldsB P i fs = true → fs.mapM (fun f => (P.info? f.type).map fun j => (f.offset, j.size)) = some ((List.range' i fs.length).map fun j => (j, 1))
  | [], i, _ => by simp
  | f :: r, i, h => by
    simp only [fieldsB, Bool.and_eq_true] at h
    have h1 := Nat.eq_of_beq_eq_true h.1.1
    have h2 := h.1.2
    unfold t1B at h2
    simp only [Bool.and_eq_true] at h2
    have hr := places_of r (i + 1) h.2
    cases hi : P.info? f.type with
    | none => simp [hi] at h2
    | some j =>
      simp only [hi] at h2
      have h3 := Nat.eq_of_beq_eq_true h2.2
      simp [List.mapM_cons, hi, hr, h1, h3, List.range'_succ]
theorem fill_parts (place : Nat → Option (Nat × Nat)) (k : Nat) (hp : ∀ i, i < k → place i = some (i, 1)) : ∀ (vs : List (Nat × Value)) (cs : List Value), cs.length = k → partsOk k vs = true → Instr.fill place cs.toArray vs = some (Z84 cs vs).toArray
  | [], cs, _, _ => rfl
  | (i, v) :: r, cs, hl, hok => by
    simp only [partsOk, Bool.and_eq_true] at hok
    have hi : i < k := by simpa [Nat.blt_eq] using hok.1.1
    have hv := cells_one hok.1.2
    simp only [Instr.fill, hp i hi, hv]
    have hc : ¬ (i + 1 > cs.length) := by omega
    simp [hc, Z84]
    exact fill_parts place k hp r (cs.set i v) (by simpa using hl) hok.2
theorem Z30 {g : Option (Nat × Bool)} {t k bytes : Nat} {zs : Array Value} [TS P t k] [TE P t (.agg zs) k bytes] {parts : Array (Nat × Operand)} {pvs : List (Nat × Value)} {cs : List Value}
    (hv : evP σ parts.toList = some pvs) (hok : partsOk k pvs = true) (hcs : Z84 zs.toList pvs = cs) : DoesQ P ⟨some d, .build t parts, ty, pos, af, g⟩ σ w (.agg cs.toArray) := by
  refine ⟨fun w2 he => ⟨fun m a hf => ?_⟩⟩
  obtain ⟨fs, hu, hl, hb⟩ := TS.und (P := P) (t := t) (k := k) inferInstance
  obtain ⟨i, hi, hz, hsz, _⟩ := TE.row (P := P) (e := t) (z := .agg zs) (k := k) (bytes := bytes) inferInstance
  have hpl := places_of (P := P) fs.toList 0 hb
  have hzl : zs.toList.length = k := by
    have := TE.cells (P := P) (e := t) (z := .agg zs) (k := k) (bytes := bytes)
    simpa [Value.cells] using this
  have hbuilt : P.built t (parts.map fun (i, x) => (i, a.eval x)).toList = some cs.toArray := by
    unfold Program.built
    simp only [hi, hu, hz, hpl]
    have e1 : (parts.map fun (i, x) => (i, a.eval x)).toList = pvs := by rw [Array.toList_map]; exact fits_evP hf hv
    rw [e1, ← hcs]
    have := fill_parts (fun j => ((List.map (fun j => (j, 1)) (List.range' 0 fs.toList.length)).toArray)[j]?) k (fun j hj => by
      simp only [List.getElem?_toArray, List.getElem?_map]
      rw [List.getElem?_range' (by omega)]
      simp) pvs zs.toList hzl hok
    simpa [Value.cells] using this
  have hr := run_build (P := P) w2 t _ _ hbuilt
  simp only [execOp, Sem.run_bind, hr, Result.andThen_ok, Sem.run_pure]
end
end Go.Proofs.YtnfapbghkmodeaaDoor
