/-
  What is proved here: a cell of a row of cells in new memory is set; parts of rows of tags; the builtin clear; what the operations on cells compute.
-/
import Derived.Test.YtnfapbghkmodeaaDoorCNew
import Derived.Test.YtnfapbghkmodeaaDoorWx
namespace Go.Proofs.YtnfapbghkmodeaaDoor
set_option linter.unusedVariables false
set_option linter.unusedSimpArgs false
set_option linter.unnecessarySimpa false
open Go.RowKit

theorem RowT.take {e : TypeId} {w : World} {A : Option Addr} {n c : Nat} {l : List Tg} {F : List Nat} (h : RowT e w (.slice A n c) l F) {m : Nat} (hm : m ≤ l.length) (hp : 0 < l.length) : RowT e w (.slice A m c) (l.take m) F := by
  obtain ⟨⟨hl, ⟨h0, h1⟩ | ⟨g, cap, cur, hv, hB, hg, hnc, hcm, hs, ht⟩⟩, hF⟩ := h
  · omega
  · injection hv with q1 q2 q3
    subst q1 q3
    have hlen : (l.take m).length = m := by simp; omega
    refine ⟨⟨by rw [tagCells_length], .inr ⟨g, c, cur, by rw [hlen], hB, hg, by omega, hcm, hs, ?_⟩⟩, hF⟩
    have h2 : tagCells l = tagCells (l.take m) ++ tagCells (l.drop m) := by rw [← tagCells_append, List.take_append_drop]
    rw [h2] at ht
    have h3 := congrArg (List.take (m * 2)) ht
    rw [List.take_take, Nat.min_eq_left (by omega), List.take_append_of_le_length (by rw [tagCells_length, hlen]; omega)] at h3
    rw [hlen, h3, List.take_of_length_le (by rw [tagCells_length, hlen]; omega)]
theorem NewCells.upd {e eT : TypeId} {l : List Ce} {w w1 : World} {v : Value} {i : Nat} (h : NewCells e eT l w v w1) (hi : i < l.length) : ∃ g cap cs vs Fc, v = .slice (some ⟨g, 0, none⟩) l.length cap ∧ w.heap.size ≤ g ∧ Blk w1 g cs e ∧ i * 4 + 4 ≤ cs.length ∧
    cs[i * 4]? = some (.int .i64 l[i].val) ∧ cs[i * 4 + 1]? = some (.bool l[i].al) ∧ cs[i * 4 + 2]? = some (.int .i64 l[i].nx) ∧ cs[i * 4 + 3]? = some vs ∧ RowT eT w1 vs l[i].st Fc ∧ g ∉ Fc ∧ (∀ b ∈ Fc, w.heap.size ≤ b) ∧
    ∀ w' cs' c' vs' Fc', Blk w' g cs' e → cs'.length = cs.length → (∀ p, (p < i * 4 ∨ i * 4 + 4 ≤ p) → cs'[p]? = cs[p]?) → cs'[i * 4]? = some (.int .i64 c'.val) → cs'[i * 4 + 1]? = some (.bool c'.al) → cs'[i * 4 + 2]? = some (.int .i64 c'.nx) → cs'[i * 4 + 3]? = some vs' →
      RowT eT w' vs' c'.st Fc' → Chg (g :: Fc) w1 w' → (∀ b ∈ Fc', b ∈ Fc ∨ w1.heap.size ≤ b) → NewCells e eT (l.set i c') w v w' := by
  obtain ⟨⟨F, hr, hnd, hF⟩, he⟩ := h
  obtain ⟨g, cap, cs, vs, F1, Fc, F2, rfl, rfl, hb, hlen, c0, c1, c2, c3, hst, hup⟩ := hr.upd hi
  have hg : w.heap.size ≤ g := hF g (by simp)
  have hlt := hr.lt
  refine ⟨g, cap, cs, vs, Fc, rfl, hg, hb, hlen, c0, c1, c2, c3, hst, ?_, fun b hb => hF b (by simp [hb]), fun w' cs' c' vs' Fc' hb' hl' ho a0 a1 a2 a3 hr' hc hF' => ?_⟩
  · simp only [List.nodup_cons, List.mem_append, not_or] at hnd
    exact hnd.1.2.1
  · have hgF : ∀ x ∈ F1 ++ F2, x ∉ g :: Fc := by
      simp only [List.nodup_cons, List.nodup_append, List.mem_append, not_or] at hnd
      obtain ⟨⟨g1, g2, g3⟩, n1, ⟨n2, n3, n4⟩, n5⟩ := hnd
      intro x hx hm
      rcases List.mem_append.1 hx with hx | hx <;> rcases List.mem_cons.1 hm with hm | hm
      · exact g1 (hm ▸ hx)
      · exact n5 x hx x (.inl hm) rfl
      · exact g3 (hm ▸ hx)
      · exact n4 x hm x hx rfl
    refine ⟨⟨_, hup w' cs' c' vs' Fc' (g :: Fc) hb' hl' ho a0 a1 a2 a3 hr' hc hgF, nodup_swap hnd hr'.nodup fun x hx hm => ?_, fun x hx => ?_⟩, hc.ext_of he fun b hb => ?_⟩
    · rcases hF' x hx with h1 | h1
      · simp only [List.nodup_cons, List.nodup_append, List.mem_append, not_or] at hnd
        obtain ⟨⟨g1, g2, g3⟩, n1, ⟨n2, n3, n4⟩, n5⟩ := hnd
        rcases List.mem_cons.1 hm with hm | hm
        · exact g2 (hm ▸ h1)
        · rcases List.mem_append.1 hm with hm | hm
          · exact n5 x hm x (.inl h1) rfl
          · exact n4 x h1 x hm rfl
      · have : x < w1.heap.size := hlt x (by
          rcases List.mem_cons.1 hm with hm | hm
          · simp [hm]
          · rcases List.mem_append.1 hm with hm | hm <;> simp [hm])
        omega
    · simp only [List.mem_cons, List.mem_append] at hx
      rcases hx with rfl | hx | hx | hx
      · exact hg
      · exact hF x (by simp [hx])
      · rcases hF' x hx with h1 | h1
        · exact hF x (by simp [h1])
        · have := he.size_le; omega
      · exact hF x (by simp [hx])
    · rcases List.mem_cons.1 hb with rfl | hb
      · exact hg
      · exact hF b (by simp [hb])
/-- The stack of a cell is set. -/
theorem NewCells.setSt {e eT : TypeId} {l : List Ce} {w w1 : World} {v : Value} {i : Nat} (h : NewCells e eT l w v w1) (hi : i < l.length) : ∃ g cap cs vs Fc, v = .slice (some ⟨g, 0, none⟩) l.length cap ∧ w.heap.size ≤ g ∧ Blk w1 g cs e ∧ i * 4 + 4 ≤ cs.length ∧
    cs[i * 4]? = some (.int .i64 l[i].val) ∧ cs[i * 4 + 1]? = some (.bool l[i].al) ∧ cs[i * 4 + 2]? = some (.int .i64 l[i].nx) ∧ cs[i * 4 + 3]? = some vs ∧ RowT eT w1 vs l[i].st Fc ∧ g ∉ Fc ∧ (∀ b ∈ Fc, w.heap.size ≤ b) ∧
    ∀ w' vs' st' Fc', Blk w' g (cs.set (i * 4 + 3) vs') e → RowT eT w' vs' st' Fc' → Chg (g :: Fc) w1 w' → (∀ b ∈ Fc', b ∈ Fc ∨ w1.heap.size ≤ b) → NewCells e eT (l.set i ⟨l[i].val, l[i].al, l[i].nx, st'⟩) w v w' := by
  obtain ⟨g, cap, cs, vs, Fc, rfl, hg, hb, hlen, c0, c1, c2, c3, hst, hgF, hFc, hup⟩ := h.upd hi
  refine ⟨g, cap, cs, vs, Fc, rfl, hg, hb, hlen, c0, c1, c2, c3, hst, hgF, hFc, fun w' vs' st' Fc' hb' hr' hc hF' => ?_⟩
  exact hup w' _ ⟨l[i].val, l[i].al, l[i].nx, st'⟩ vs' Fc' hb' (by simp) (fun p hp => by rw [List.getElem?_set_ne (by omega)]) (by rw [List.getElem?_set_ne (by omega)]; exact c0) (by rw [List.getElem?_set_ne (by omega)]; exact c1) (by rw [List.getElem?_set_ne (by omega)]; exact c2)
    (by rw [List.getElem?_set_self (by omega)]) hr' hc hF'

section
variable {P : Program} {n : Nat} {ops : Array Oper} {Q : Exit → Act → World → Prop} {rest : List Oper} {σ : Env} {w w' : World} {v u : Value}
variable {d : Nat} {ty : TypeId} {pos : String} {af : Array Edge} {x y s : Operand}
theorem q_slFromB {g : Option (Nat × Bool)} {t e k len cap l b o : Nat} {i : Int} [TSl P t e k] (hx : ev σ x = some (.slice (some ⟨b, o, none⟩) len cap)) (hy : ev σ y = some (.int .i64 i)) (hi : i = (l : Int)) (hl : l ≤ len) (hc : len ≤ cap) (hlt : l < cap) :
    DoesQ P ⟨some d, .slice t x (some y) none none, ty, pos, af, g⟩ σ w (.slice (some ⟨b, o + l * k, none⟩) (len - l) (cap - l)) := by
  have := q_slFrom (P := P) (w := w) (d := d) (ty := ty) (pos := pos) (af := af) (g := g) (t := t) hx hy hi hl hc
  rw [if_neg (by omega)] at this
  simpa [add_some] using this
/-- The elements of a slice are made zero. -/
theorem WO_clear {t e k bytes b o m cap : Nat} {z : Value} [TSl P t e k] [TE P e z k bytes] {cs : List Value} {t' : TypeId} (hx : ev σ x = some (.slice (some ⟨b, o, none⟩) m cap)) (hm : 0 < m) (hk : 0 < k) (hb : Blk w b cs t') (ho : o + m * k ≤ cs.length) (h1 : ∀ u ∈ z.cells.toList, u.oneCell' = true)
    (h : ∀ w', Blk w' b (cs.take o ++ (List.replicate m z.cells.toList).flatten ++ cs.drop (o + m * k)) t' → Only b w w' → WO P n ops Q rest σ w') : WO P n ops Q (⟨none, .call ⟨.builtin .clear, #[x], #[t]⟩, ty, pos, af, none⟩ :: rest) σ w := by
  have hzc : z.cells.size = k := TE.cells (P := P) (e := e) (k := k) (bytes := bytes)
  have hzl : (Builtin.zeroCells z.cells m).toList = (List.replicate m z.cells.toList).flatten := made_list z.cells m (by omega)
  have hlen : (List.replicate m z.cells.toList).flatten.length = m * k := by simp [hzc]
  have hs := run_storeCells_at P b o t' (List.replicate m z.cells.toList).flatten 0 cs.toArray w hb (by rw [hlen]; simpa using ho) (by
    intro v hv
    obtain ⟨y, hy, hv⟩ := List.mem_flatten.1 hv
    rw [List.eq_of_mem_replicate hy] at hv
    exact h1 v hv)
  simp only [Nat.add_zero, hlen] at hs
  obtain ⟨m', rfl⟩ : ∃ m', m = m' + 1 := ⟨m - 1, by omega⟩
  refine WO.value rfl (v := .tuple #[]) (w' := w.setRow b (cs.take o ++ (List.replicate (m' + 1) z.cells.toList).flatten ++ cs.drop (o + (m' + 1) * k)).toArray) ⟨fun _ a hf => ?_⟩
    (h _ (by unfold Blk at hb ⊢; rw [setRow_heap w b _ _ _ _ hb]) (only_setRow w b _))
  simp [execOp, resolve, invoke, builtin, fits_ev hf hx, Builtin.clear_, run_underlying (TSl.und (P := P) (t := t) (e := e) (k := k)), TE.run_zero (P := P) (e := e) (z := z) (k := k) (bytes := bytes) inferInstance, hzl, hs]
end

/-! ### What the operations compute -/
def stAt (l : List Ce) (x : Pt) : List Tg := match l[x.cell.toNat]? with
  | some c => c.st
  | none => []
/-- The code of l6Place. -/
def accC (l : List Ce) (x : Pt) : Int :=
  if cellsOk l ∧ 0 ≤ x.cell ∧ x.cell < l.length then
    match l[x.cell.toNat]? with
    | none => 4
    | some c => if c.al then (if tagAt c.st x.tag = -1 then 2 else 0) else 1
  else 4
def kOf (l : List Ce) (x : Pt) : Nat := (tagAt (stAt l x) x.tag).toNat
def readSt (st : List Tg) (k : Nat) : List Tg := st.take (k + 1) ++ (st.drop (k + 1)).filter (fun t => !t.u)
def setC (l : List Ce) (x : Pt) (f : Ce → Ce) : List Ce := match l[x.cell.toNat]? with
  | some c => l.set x.cell.toNat (f c)
  | none => l
def readL (l : List Ce) (x : Pt) : List Ce := if accC l x = 0 then setC l x (fun c => { c with st := readSt c.st (kOf l x) }) else l
def valAt (l : List Ce) (x : Pt) : Int := match l[x.cell.toNat]? with
  | some c => c.val
  | none => 0
def readV (l : List Ce) (x : Pt) : Int := if accC l x = 0 then valAt l x else 0
def uAt (l : List Ce) (x : Pt) : Bool := match (stAt l x)[kOf l x]? with
  | some t => t.u
  | none => false
def wrC (l : List Ce) (x : Pt) : Int := if accC l x = 0 then (if uAt l x then 0 else 3) else accC l x
def wrL (l : List Ce) (x : Pt) : List Ce := if wrC l x = 0 then setC l x (fun c => { c with st := c.st.take (kOf l x + 1) }) else l
def touchC (l : List Ce) (x : Pt) (wr : Bool) : Int := if wr then wrC l x else accC l x
def touchL (l : List Ce) (x : Pt) (wr : Bool) : List Ce := if wr then wrL l x else readL l x
theorem tagAt_cases (st : List Tg) (id : Int) : (tagAt st id = -1 ∧ st.findIdx? (fun t => t.id == id) = none) ∨ ∃ (k : Nat) (hk : k < st.length), tagAt st id = k ∧ st.findIdx? (fun t => t.id == id) = some k := by
  unfold tagAt
  cases h : st.findIdx? (fun t => t.id == id) with
  | none => exact .inl ⟨rfl, rfl⟩
  | some k =>
    obtain ⟨hk, _⟩ := List.findIdx?_eq_some_iff_getElem.1 h
    exact .inr ⟨k, hk, rfl, rfl⟩
theorem acc_cases (l : List Ce) (x : Pt) : (accC l x = 4 ∧ ¬ (cellsOk l ∧ 0 ≤ x.cell ∧ x.cell < l.length)) ∨
    (cellsOk l ∧ ∃ (i : Nat) (hi : i < l.length), x.cell = i ∧ stAt l x = l[i].st ∧ valAt l x = l[i].val ∧ (∀ f, setC l x f = l.set i (f l[i])) ∧
      ((l[i].al = false ∧ accC l x = 1) ∨ (l[i].al = true ∧ tagAt l[i].st x.tag = -1 ∧ accC l x = 2) ∨
       (l[i].al = true ∧ accC l x = 0 ∧ ∃ (k : Nat) (hk : k < l[i].st.length), tagAt l[i].st x.tag = k ∧ kOf l x = k ∧ uAt l x = l[i].st[k].u))) := by
  obtain ⟨xc, xt⟩ := x
  by_cases h : cellsOk l ∧ 0 ≤ xc ∧ xc < l.length
  · obtain ⟨h1, h2, h3⟩ := id h
    obtain ⟨i, rfl⟩ := Int.eq_ofNat_of_zero_le h2
    have hi : i < l.length := by omega
    have hst : stAt l ⟨(i : Int), xt⟩ = l[i].st := by simp [stAt, hi]
    refine .inr ⟨h1, i, hi, rfl, hst, by simp [valAt, hi], fun f => by simp [setC, hi], ?_⟩
    have ha : accC l ⟨(i : Int), xt⟩ = if l[i].al then (if tagAt l[i].st xt = -1 then 2 else 0) else 1 := by
      unfold accC
      rw [if_pos h]
      simp [hi]
    cases hal : l[i].al
    · exact .inl ⟨rfl, by rw [ha, hal]; rfl⟩
    · rw [hal] at ha
      rcases tagAt_cases l[i].st xt with ⟨h4, _⟩ | ⟨k, hk, h4, _⟩
      · exact .inr (.inl ⟨rfl, h4, by rw [ha, h4]; rfl⟩)
      · have hko : kOf l ⟨(i : Int), xt⟩ = k := by unfold kOf; rw [hst]; simp only; rw [h4]; rfl
        refine .inr (.inr ⟨rfl, by rw [ha, h4, if_pos rfl, if_neg (by omega)], k, hk, h4, hko, ?_⟩)
        unfold uAt
        rw [hst, hko, List.getElem?_eq_getElem hk]
  · exact .inl ⟨by unfold accC; rw [if_neg h], h⟩
end Go.Proofs.YtnfapbghkmodeaaDoor
