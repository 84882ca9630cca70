/-
  What is proved here: what it is for memory to hold stacks of tags and cells, read only or owned; elements are read and set.
-/
import Derived.Test.YtnfapbghkmodeaaDoorMap
import Derived.Test.YtnfapbghkmodeaaDoorData
namespace Go.Proofs.YtnfapbghkmodeaaDoor
set_option linter.unusedVariables false
set_option linter.unusedSimpArgs false
set_option linter.unnecessarySimpa false
open Go.RowKit

structure Tg where
  id : Int
  u : Bool
deriving DecidableEq, Inhabited
structure Ce where
  val : Int
  al : Bool
  nx : Int
  st : List Tg
deriving DecidableEq, Inhabited
structure Pt where
  cell : Int
  tag : Int
deriving DecidableEq
def ptV (p : Pt) : Value := .agg #[.int .i64 p.cell, .int .i64 p.tag]
def encT : List Tg → Cs
  | [] => .nil
  | t :: r => .int t.id (.bool t.u (encT r))
def encC : List Ce → Cs
  | [] => .nil
  | c :: r => .int c.val (.bool c.al (.int c.nx (.sl c.st.length (encT c.st) (encC r))))
/-- The slice holds these tags; these cells. -/
def TgS (w : World) (v : Value) (l : List Tg) (F : List Nat) : Prop := SlV (CsAt w (encT l)) l.length v F
def CeS (w : World) (v : Value) (l : List Ce) (F : List Nat) : Prop := SlV (CsAt w (encC l)) l.length v F
section
variable {w w' : World} {v : Value} {F G : List Nat}
theorem TgS.chg {l : List Tg} (h : TgS w v l F) (k : Chg G w w') (hd : ∀ x ∈ F, x ∉ G) : TgS w' v l F := SlV.chg h k hd
theorem TgS.ext {l : List Tg} (h : TgS w v l F) (he : Ext w w') : TgS w' v l F := SlV.ext h he
theorem CeS.chg {l : List Ce} (h : CeS w v l F) (k : Chg G w w') (hd : ∀ x ∈ F, x ∉ G) : CeS w' v l F := SlV.chg h k hd
theorem CeS.ext {l : List Ce} (h : CeS w v l F) (he : Ext w w') : CeS w' v l F := SlV.ext h he
theorem TgS.slice {l : List Tg} (h : TgS w v l F) : ∃ A c, v = .slice A l.length c ∧ l.length ≤ maxI * 2 - 1 ∧ l.length ≤ c := by obtain ⟨A, c, e, hl, _⟩ := h; exact ⟨A, c, e, hl⟩
theorem CeS.slice {l : List Ce} (h : CeS w v l F) : ∃ A c, v = .slice A l.length c ∧ l.length ≤ maxI * 2 - 1 ∧ l.length ≤ c := by obtain ⟨A, c, e, hl, _⟩ := h; exact ⟨A, c, e, hl⟩
theorem encT_at : ∀ (l : List Tg) (b o : Nat) (F : List Nat), CsAt w (encT l) b o F → ∀ (i : Nat) (hi : i < l.length),
    w.cell? ⟨b, o + i * 2, none⟩ = some (.int .i64 l[i].id) ∧ w.cell? ⟨b, o + i * 2 + 1, none⟩ = some (.bool l[i].u)
  | t :: r, b, o, F, h, 0, _ => by simpa using ⟨h.1, h.2.1⟩
  | t :: r, b, o, F, h, i + 1, hi => by
    have := encT_at r b (o + 1 + 1) F h.2.2 i (by simpa using hi)
    rw [show o + (i + 1) * 2 = o + 1 + 1 + i * 2 from by omega]
    simpa using this
theorem encC_at : ∀ (l : List Ce) (b o : Nat) (F : List Nat), CsAt w (encC l) b o F → ∀ (i : Nat) (hi : i < l.length), ∃ vs Fs,
    w.cell? ⟨b, o + i * 4, none⟩ = some (.int .i64 l[i].val) ∧ w.cell? ⟨b, o + i * 4 + 1, none⟩ = some (.bool l[i].al) ∧ w.cell? ⟨b, o + i * 4 + 2, none⟩ = some (.int .i64 l[i].nx) ∧
    w.cell? ⟨b, o + i * 4 + 3, none⟩ = some vs ∧ TgS w vs l[i].st Fs ∧ ∀ x ∈ Fs, x ∈ F
  | c :: r, b, o, F, ⟨h1, h2, h3, vs, F1, F2, e, h4, hs, _⟩, 0, _ => ⟨vs, F1, by simpa using h1, by simpa using h2, by simpa using h3, by simpa using h4, hs, by subst e; intro x hx; simp [hx]⟩
  | c :: r, b, o, F, ⟨_, _, _, _, F1, F2, e, _, _, hr⟩, i + 1, hi => by
    obtain ⟨vs, Fs, a1, a2, a3, a4, a5, a6⟩ := encC_at r b (o + 1 + 1 + 1 + 1) F2 hr i (by simpa using hi)
    rw [show o + (i + 1) * 4 = o + 1 + 1 + 1 + 1 + i * 4 from by omega]
    exact ⟨vs, Fs, by simpa using a1, by simpa using a2, by simpa using a3, by simpa using a4, by simpa using a5, fun x hx => by subst e; simp [a6 x hx]⟩
theorem four {b o : Nat} {c0 c1 c2 c3 : Value} (h0 : w.cell? ⟨b, o, none⟩ = some c0) (h1 : w.cell? ⟨b, o + 1, none⟩ = some c1) (h2 : w.cell? ⟨b, o + 2, none⟩ = some c2) (h3 : w.cell? ⟨b, o + 3, none⟩ = some c3) :
    ∀ (j : Nat) (u : Value), [c0, c1, c2, c3][j]? = some u → w.cell? ⟨b, o + j, none⟩ = some u := fun j u hu => by
  match j, hu with
  | 0, hu => cases hu; exact h0
  | 1, hu => cases hu; exact h1
  | 2, hu => cases hu; exact h2
  | 3, hu => cases hu; exact h3
  | _ + 4, hu => simp at hu
theorem two {b o : Nat} {c0 c1 : Value} (h0 : w.cell? ⟨b, o, none⟩ = some c0) (h1 : w.cell? ⟨b, o + 1, none⟩ = some c1) :
    ∀ (j : Nat) (u : Value), [c0, c1][j]? = some u → w.cell? ⟨b, o + j, none⟩ = some u := fun j u hu => by
  match j, hu with
  | 0, hu => cases hu; exact h0
  | 1, hu => cases hu; exact h1
  | _ + 2, hu => simp at hu
theorem tgs_at {A : Option Addr} {n c i : Nat} {l : List Tg} (h : TgS w (.slice A n c) l F) (hi : i < l.length) :
    ∃ b o, A = some ⟨b, o, none⟩ ∧ b ∈ F ∧ w.cell? ⟨b, o + i * 2, none⟩ = some (.int .i64 l[i].id) ∧ w.cell? ⟨b, o + i * 2 + 1, none⟩ = some (.bool l[i].u) := by
  obtain ⟨A', c', e, _, ⟨h0, _⟩ | ⟨b, o, F', hA, hF, hc⟩⟩ := h
  · omega
  · cases e
    obtain ⟨a1, a2⟩ := encT_at l b o F' hc i hi
    exact ⟨b, o, hA, by simp [hF], a1, a2⟩
theorem ces_at {A : Option Addr} {n c i : Nat} {l : List Ce} (h : CeS w (.slice A n c) l F) (hi : i < l.length) :
    ∃ b o vs Fs, A = some ⟨b, o, none⟩ ∧ b ∈ F ∧ w.cell? ⟨b, o + i * 4, none⟩ = some (.int .i64 l[i].val) ∧ w.cell? ⟨b, o + i * 4 + 1, none⟩ = some (.bool l[i].al) ∧ w.cell? ⟨b, o + i * 4 + 2, none⟩ = some (.int .i64 l[i].nx) ∧
      w.cell? ⟨b, o + i * 4 + 3, none⟩ = some vs ∧ TgS w vs l[i].st Fs ∧ ∀ x ∈ Fs, x ∈ F := by
  obtain ⟨A', c', e, _, ⟨h0, _⟩ | ⟨b, o, F', hA, hF, hc⟩⟩ := h
  · omega
  · cases e
    obtain ⟨vs, Fs, a1, a2, a3, a4, a5, a6⟩ := encC_at l b o F' hc i hi
    exact ⟨b, o, vs, Fs, hA, by simp [hF], a1, a2, a3, a4, a5, fun x hx => by simp [hF, a6 x hx]⟩
end

/-! ### Owned rows -/
theorem ownsRow_chg {w w' : World} {G : List Nat} {v : Value} {B e k n : Nat} {xs : List Value} (h : w.ownsRow B e k v n xs) (c : Chg G w w') (hd : ∀ x ∈ v.ownBlock.toList, x ∉ G) : w'.ownsRow B e k v n xs := by
  obtain ⟨hl, ⟨rfl, h0⟩ | ⟨g, cap, cur, rfl, hB, hg, rest⟩⟩ := h
  · exact ⟨hl, .inl ⟨rfl, h0⟩⟩
  · refine ⟨hl, .inr ⟨g, cap, cur, rfl, hB, ?_, rest⟩⟩
    rw [c.block g (Array.getElem?_eq_some_iff.1 hg).1 (hd g (by simp [Value.ownBlock]))]
    exact hg
theorem ownsRow_base0 {w : World} {v : Value} {B e k n : Nat} {xs : List Value} (h : w.ownsRow B e k v n xs) : w.ownsRow 0 e k v n xs := by
  obtain ⟨hl, h | ⟨g, cap, cur, hv, hB, rest⟩⟩ := h
  · exact ⟨hl, .inl h⟩
  · exact ⟨hl, .inr ⟨g, cap, cur, hv, Nat.zero_le _, rest⟩⟩
theorem ownsRow_upd {w : World} {v : Value} {B e k n : Nat} {xs : List Value} (h : w.ownsRow B e k v n xs) (hn : 0 < n) :
    ∃ g cap cs, v = .slice (some ⟨g, 0, none⟩) n cap ∧ Blk w g cs e ∧ n * k ≤ cs.length ∧ xs = cs.take (n * k) ∧ ∀ w' cs', Blk w' g cs' e → cs'.length = cs.length → w'.ownsRow B e k v n (cs'.take (n * k)) := by
  obtain ⟨hl, ⟨_, h0⟩ | ⟨g, cap, cur, rfl, hB, hg, hnc, hm, hs, ht⟩⟩ := h
  · omega
  · have hle : n * k ≤ cap * k := Nat.mul_le_mul_right k hnc
    refine ⟨g, cap, cur.toList, rfl, by simpa [Blk] using hg, by simp; omega, ht.symm, fun w' cs' hb hlen => ⟨?_, .inr ⟨g, cap, cs'.toArray, rfl, hB, hb, hnc, hm, ?_, rfl⟩⟩⟩
    · simp at hlen ⊢; omega
    · simp at hlen ⊢; omega
def tagCells : List Tg → List Value
  | [] => []
  | t :: r => .int .i64 t.id :: .bool t.u :: tagCells r
theorem tagCells_length : ∀ l, (tagCells l).length = l.length * 2
  | [] => rfl
  | t :: r => by simp [tagCells, tagCells_length r]; omega
theorem tagCells_append : ∀ l m, tagCells (l ++ m) = tagCells l ++ tagCells m
  | [], m => rfl
  | t :: r, m => by simp [tagCells, tagCells_append r m]
theorem tagCells_get : ∀ (l : List Tg) (i : Nat) (hi : i < l.length), (tagCells l)[i * 2]? = some (.int .i64 l[i].id) ∧ (tagCells l)[i * 2 + 1]? = some (.bool l[i].u)
  | t :: r, 0, _ => by simp [tagCells]
  | t :: r, i + 1, hi => by
    have := tagCells_get r i (by simpa using hi)
    rw [show (i + 1) * 2 = i * 2 + 1 + 1 from by omega]
    simpa [tagCells] using this
theorem tagCells_set : ∀ (l : List Tg) (i : Nat) (t' : Tg) (xs : List Value), i < l.length → xs.length = l.length * 2 → (∀ p, (p < i * 2 ∨ i * 2 + 2 ≤ p) → xs[p]? = (tagCells l)[p]?) → xs[i * 2]? = some (.int .i64 t'.id) → xs[i * 2 + 1]? = some (.bool t'.u) →
    xs = tagCells (l.set i t')
  | t :: r, 0, t', xs, _, hl, ho, h0, h1 => by
    match xs, hl, h0, h1, ho with
    | [], hl, _, _, _ => exfalso; simp only [List.length_cons, List.length_nil] at hl; omega
    | [_], hl, _, _, _ => exfalso; simp only [List.length_cons, List.length_nil] at hl; omega
    | a :: b :: ys, hl, h0, h1, ho =>
      simp at h0 h1
      have : ys = tagCells r := List.ext_getElem? fun p => by simpa [tagCells] using ho (p + 2) (by omega)
      simp [tagCells, h0, h1, this]
  | t :: r, i + 1, t', xs, hi, hl, ho, h0, h1 => by
    match xs, hl, h0, h1, ho with
    | [], hl, _, _, _ => exfalso; simp only [List.length_cons, List.length_nil] at hl; omega
    | [_], hl, _, _, _ => exfalso; simp only [List.length_cons, List.length_nil] at hl; omega
    | a :: b :: ys, hl, h0, h1, ho =>
      have ha := ho 0 (by omega)
      have hb := ho 1 (by omega)
      simp [tagCells] at ha hb
      have := tagCells_set r i t' ys (by simpa using hi) (by simp at hl; omega) (fun p hp => by simpa [tagCells] using ho (p + 2) (by omega)) (by
        rw [show (i + 1) * 2 = i * 2 + 1 + 1 from by omega] at h0; simpa using h0) (by
        rw [show (i + 1) * 2 = i * 2 + 1 + 1 from by omega] at h1; simpa using h1)
      simp [tagCells, ha, hb, this]
/-- The slice owns a row of tags. -/
structure RowT (e : TypeId) (w : World) (v : Value) (l : List Tg) (F : List Nat) : Prop where
  own : w.ownsRow 0 e 2 v l.length (tagCells l)
  foot : F = v.ownBlock.toList
section
variable {e e' : TypeId} {w w' : World} {v : Value} {l : List Tg} {F G : List Nat}
theorem RowT.chg (h : RowT e w v l F) (k : Chg G w w') (hd : ∀ x ∈ F, x ∉ G) : RowT e w' v l F := ⟨ownsRow_chg h.own k (by rw [← h.foot]; exact hd), h.foot⟩
theorem RowT.ext (h : RowT e w v l F) (he : Ext w w') : RowT e w' v l F := h.chg (he.chg []) (by simp)
theorem RowT.lt (h : RowT e w v l F) : ∀ x ∈ F, x < w.heap.size := fun x hx => by rw [h.foot] at hx; exact (h.own.lt x (by simpa using hx)).2
theorem RowT.slice (h : RowT e w v l F) : ∃ A c, v = .slice A l.length c ∧ l.length ≤ c := by
  obtain ⟨hl, ⟨rfl, h0⟩ | ⟨g, cap, cur, rfl, hB, hg, hnc, _⟩⟩ := h.own
  · exact ⟨none, 0, by rw [h0], by omega⟩
  · exact ⟨_, cap, rfl, hnc⟩
theorem cs_of_tagCells {b o : Nat} (hc : ∀ j u, (tagCells l)[j]? = some u → w.cell? ⟨b, o + j, none⟩ = some u) : CsAt w (encT l) b o [] := by
  induction l generalizing o with
  | nil => rfl
  | cons t r ih =>
    refine ⟨by simpa using hc 0 _ rfl, by simpa using hc 1 _ rfl, ih fun j u hj => ?_⟩
    have := hc (j + 2) u (by simpa [tagCells] using hj)
    rw [show o + 1 + 1 + j = o + (j + 2) from by omega]
    exact this
theorem RowT.tgs (h : RowT e w v l F) : TgS w v l F := by
  obtain ⟨hl, ⟨rfl, h0⟩ | ⟨g, cap, cur, rfl, hB, hg, hnc, hcm, hs, ht⟩⟩ := h.own
  · exact ⟨none, 0, by rw [h0], by omega, .inl ⟨h0, by rw [h.foot]; rfl⟩⟩
  · have hb : Blk w g cur.toList e := by simpa [Blk] using hg
    refine ⟨_, cap, rfl, by unfold maxI; unfold maxLen at hcm; omega, .inr ⟨g, 0, [], rfl, by rw [h.foot]; rfl, cs_of_tagCells fun j u hj => ?_⟩⟩
    rw [← ht, List.getElem?_take] at hj
    split at hj
    · rw [Nat.zero_add]; exact hb.cell hj
    · cases hj
theorem RowT.upd {i : Nat} (h : RowT e w v l F) (hi : i < l.length) : ∃ g cap cs, v = .slice (some ⟨g, 0, none⟩) l.length cap ∧ F = [g] ∧ Blk w g cs e ∧ i * 2 + 2 ≤ cs.length ∧ cs[i * 2]? = some (.int .i64 l[i].id) ∧ cs[i * 2 + 1]? = some (.bool l[i].u) ∧
    ∀ w' cs' t', Blk w' g cs' e → cs'.length = cs.length → (∀ p, (p < i * 2 ∨ i * 2 + 2 ≤ p) → cs'[p]? = cs[p]?) → cs'[i * 2]? = some (.int .i64 t'.id) → cs'[i * 2 + 1]? = some (.bool t'.u) → RowT e w' v (l.set i t') F := by
  obtain ⟨g, cap, cs, rfl, hb, hle, hxs, hup⟩ := ownsRow_upd h.own (by omega)
  have hF : F = [g] := by rw [h.foot]; rfl
  obtain ⟨g0, g1⟩ := tagCells_get l i hi
  rw [hxs, List.getElem?_take, if_pos (by omega)] at g0 g1
  refine ⟨g, cap, cs, rfl, hF, hb, by omega, g0, g1, fun w' cs' t' hb' hlen ho h0 h1 => ⟨?_, by rw [h.foot]⟩⟩
  have := hup w' cs' hb' hlen
  rw [List.length_set, ← tagCells_set l i t' (cs'.take (l.length * 2)) hi (by simp; omega) (fun p hp => ?_) (by rw [List.getElem?_take, if_pos (by omega)]; exact h0) (by rw [List.getElem?_take, if_pos (by omega)]; exact h1)]
  · exact this
  · rw [hxs, List.getElem?_take, List.getElem?_take, ho p hp]
/-- The cells of a row of cells: their stacks are owned rows. -/
def Stk (e : TypeId) (w : World) : List Ce → List Value → List Nat → Prop
  | [], xs, F => xs = [] ∧ F = []
  | c :: r, xs, F => ∃ vs F1 F2 xr, xs = .int .i64 c.val :: .bool c.al :: .int .i64 c.nx :: vs :: xr ∧ F = F1 ++ F2 ∧ RowT e w vs c.st F1 ∧ Stk e w r xr F2
theorem Stk.imp {e : TypeId} {w w' : World} : ∀ {l : List Ce} {xs : List Value} {F : List Nat}, Stk e w l xs F → (∀ v l' F', (∀ x ∈ F', x ∈ F) → RowT e w v l' F' → RowT e w' v l' F') → Stk e w' l xs F
  | [], _, _, h, _ => h
  | c :: r, _, _, ⟨vs, F1, F2, xr, e1, e2, h1, h2⟩, hk => by
    subst e2
    exact ⟨vs, F1, F2, xr, e1, rfl, hk _ _ _ (fun x hx => by simp [hx]) h1, h2.imp fun v l' F' hF hr => hk _ _ _ (fun x hx => by simp [hF x hx]) hr⟩
theorem Stk.length {e : TypeId} {w : World} : ∀ {l : List Ce} {xs : List Value} {F : List Nat}, Stk e w l xs F → xs.length = l.length * 4
  | [], _, _, h => by simp [h.1]
  | c :: r, _, _, ⟨vs, F1, F2, xr, e1, e2, h1, h2⟩ => by
    have := h2.length
    subst e1
    simp [this]
    omega
theorem Stk.append {e : TypeId} {w : World} : ∀ {l m : List Ce} {xs ys : List Value} {F G : List Nat}, Stk e w l xs F → Stk e w m ys G → Stk e w (l ++ m) (xs ++ ys) (F ++ G)
  | [], _, _, _, _, _, h, hm => by obtain ⟨rfl, rfl⟩ := h; exact hm
  | c :: r, _, _, _, _, _, ⟨vs, F1, F2, xr, e1, e2, h1, h2⟩, hm => by
    subst e1; subst e2
    exact ⟨vs, F1, F2 ++ _, xr ++ _, rfl, by simp, h1, h2.append hm⟩
theorem Stk.upd {e : TypeId} {w : World} : ∀ {l : List Ce} {xs : List Value} {F : List Nat} {i : Nat}, Stk e w l xs F → (hi : i < l.length) → ∃ vs F1 Fc F2,
    xs[i * 4]? = some (.int .i64 l[i].val) ∧ xs[i * 4 + 1]? = some (.bool l[i].al) ∧ xs[i * 4 + 2]? = some (.int .i64 l[i].nx) ∧ xs[i * 4 + 3]? = some vs ∧ RowT e w vs l[i].st Fc ∧ F = F1 ++ (Fc ++ F2) ∧
    ∀ w' xs' c' vs' Fc', xs'.length = xs.length → (∀ p, (p < i * 4 ∨ i * 4 + 4 ≤ p) → xs'[p]? = xs[p]?) → xs'[i * 4]? = some (.int .i64 c'.val) → xs'[i * 4 + 1]? = some (.bool c'.al) → xs'[i * 4 + 2]? = some (.int .i64 c'.nx) → xs'[i * 4 + 3]? = some vs' →
      RowT e w' vs' c'.st Fc' → (∀ v l' F', (∀ x ∈ F', x ∈ F1 ++ F2) → RowT e w v l' F' → RowT e w' v l' F') → Stk e w' (l.set i c') xs' (F1 ++ (Fc' ++ F2))
  | c :: r, xs, F, 0, ⟨vs, F1, F2, xr, e1, e2, h1, h2⟩, _ => by
    subst e1; subst e2
    refine ⟨vs, [], F1, F2, rfl, rfl, rfl, rfl, h1, rfl, fun w' xs' c' vs' Fc' hl ho a0 a1 a2 a3 hr hk => ?_⟩
    match xs', hl, ho, a0, a1, a2, a3 with
    | [], hl, _, _, _, _, _ => simp at hl
    | [_], hl, _, _, _, _, _ => simp at hl
    | [_, _], hl, _, _, _, _, _ => simp at hl
    | [_, _, _], hl, _, _, _, _, _ => simp at hl
    | x0 :: x1 :: x2 :: x3 :: ys, hl, ho, a0, a1, a2, a3 =>
      simp at a0 a1 a2 a3
      have hy : ys = xr := List.ext_getElem? fun p => by simpa using ho (p + 4) (by omega)
      subst hy
      exact ⟨vs', Fc', F2, ys, by rw [a0, a1, a2, a3], rfl, hr, h2.imp fun v l' F' hF hr' => hk _ _ _ (by simpa using hF) hr'⟩
  | c :: r, xs, F, i + 1, ⟨vs, F1, F2, xr, e1, e2, h1, h2⟩, hi => by
    subst e1; subst e2
    obtain ⟨us, G1, Gc, G2, b0, b1, b2, b3, hr, hG, hup⟩ := h2.upd (i := i) (by simpa using hi)
    subst hG
    have sh : ∀ (a0 a1 a2 a3 : Value) (zs : List Value) (j : Nat), (a0 :: a1 :: a2 :: a3 :: zs)[(i + 1) * 4 + j]? = zs[i * 4 + j]? := fun a0 a1 a2 a3 zs j => by
      rw [show (i + 1) * 4 + j = i * 4 + j + 1 + 1 + 1 + 1 from by omega]; simp
    have sh0 : ∀ (a0 a1 a2 a3 : Value) (zs : List Value), (a0 :: a1 :: a2 :: a3 :: zs)[(i + 1) * 4]? = zs[i * 4]? := fun a0 a1 a2 a3 zs => sh a0 a1 a2 a3 zs 0
    refine ⟨us, F1 ++ G1, Gc, G2, by rw [sh0]; simpa using b0, by rw [sh]; simpa using b1, by rw [sh]; simpa using b2, by rw [sh]; simpa using b3, by simpa using hr, by simp, fun w' xs' c' vs' Fc' hl ho a0 a1 a2 a3 hr' hk => ?_⟩
    match xs', hl, ho, a0, a1, a2, a3 with
    | [], hl, _, _, _, _, _ => simp at hl
    | [_], hl, _, _, _, _, _ => simp at hl
    | [_, _], hl, _, _, _, _, _ => simp at hl
    | [_, _, _], hl, _, _, _, _, _ => simp at hl
    | x0 :: x1 :: x2 :: x3 :: ys, hl, ho, a0, a1, a2, a3 =>
      rw [sh0] at a0
      rw [sh] at a1 a2 a3
      have q0 := ho 0 (by omega)
      have q1 := ho 1 (by omega)
      have q2 := ho 2 (by omega)
      have q3 := ho 3 (by omega)
      simp at q0 q1 q2 q3
      refine ⟨vs, F1, G1 ++ (Fc' ++ G2), ys, by rw [q0, q1, q2, q3], by simp, hk _ _ _ (fun x hx => by simp [hx]) h1, hup w' ys c' vs' Fc' (by simpa using hl) (fun p hp => by simpa using ho (p + 4) (by omega)) a0 a1 a2 a3 hr' fun v l' F' hF hr'' => hk _ _ _ (fun x hx => ?_) hr''⟩
      have := hF x hx
      simp at this ⊢
      exact .inr this
/-- The slice owns a row of cells, and their stacks. -/
def RowC (e eT : TypeId) (w : World) (v : Value) (l : List Ce) (F : List Nat) : Prop := ∃ xs Fs, w.ownsRow 0 e 4 v l.length xs ∧ Stk eT w l xs Fs ∧ F = v.ownBlock.toList ++ Fs
theorem cs_of_stk {eT : TypeId} : ∀ {l : List Ce} {xs : List Value} {F : List Nat} {b o : Nat}, Stk eT w l xs F → (∀ j u, xs[j]? = some u → w.cell? ⟨b, o + j, none⟩ = some u) → CsAt w (encC l) b o F
  | [], _, _, _, _, h, _ => h.2
  | c :: r, _, _, b, o, ⟨vs, F1, F2, xr, e1, e2, h1, h2⟩, hc => by
    subst e1; subst e2
    refine ⟨by simpa using hc 0 _ rfl, by simpa using hc 1 _ rfl, by simpa using hc 2 _ rfl, vs, F1, F2, rfl, by simpa using hc 3 _ rfl, h1.tgs, cs_of_stk h2 fun j u hj => ?_⟩
    rw [show o + 1 + 1 + 1 + 1 + j = o + (j + 4) from by omega]
    exact hc (j + 4) u (by simpa using hj)
theorem Stk.lt {eT : TypeId} : ∀ {l : List Ce} {xs : List Value} {F : List Nat}, Stk eT w l xs F → ∀ x ∈ F, x < w.heap.size
  | [], _, _, h => by rw [h.2]; simp
  | c :: r, _, _, ⟨vs, F1, F2, xr, e1, e2, h1, h2⟩ => by
    subst e2
    intro x hx
    rcases List.mem_append.1 hx with hx | hx
    · exact h1.lt x hx
    · exact h2.lt x hx
section
variable {eT : TypeId} {l : List Ce}
theorem RowC.chg (h : RowC e eT w v l F) (k : Chg G w w') (hd : ∀ x ∈ F, x ∉ G) : RowC e eT w' v l F := by
  obtain ⟨xs, Fs, h1, h2, rfl⟩ := h
  exact ⟨xs, Fs, ownsRow_chg h1 k (fun x hx => hd x (by simp [hx])), h2.imp fun v l' F' hF hr => hr.chg k fun x hx => hd x (by simp [hF x hx]), rfl⟩
theorem RowC.ext (h : RowC e eT w v l F) (he : Ext w w') : RowC e eT w' v l F := h.chg (he.chg []) (by simp)
theorem RowC.lt (h : RowC e eT w v l F) : ∀ x ∈ F, x < w.heap.size := by
  obtain ⟨xs, Fs, h1, h2, rfl⟩ := h
  intro x hx
  rcases List.mem_append.1 hx with hx | hx
  · exact (h1.lt x (by simpa using hx)).2
  · exact h2.lt x hx
theorem RowC.slice (h : RowC e eT w v l F) : ∃ A c, v = .slice A l.length c ∧ l.length ≤ c ∧ c ≤ maxI * 2 - 1 := by
  obtain ⟨xs, Fs, ⟨hl, ⟨rfl, h0⟩ | ⟨g, cap, cur, rfl, hB, hg, hnc, hm, _⟩⟩, h2, _⟩ := h
  · exact ⟨none, 0, by rw [h0], by omega, by omega⟩
  · exact ⟨_, cap, rfl, hnc, by unfold maxI; unfold maxLen at hm; omega⟩
theorem RowC.ces (h : RowC e eT w v l F) : CeS w v l F := by
  obtain ⟨xs, Fs, ⟨hl, ⟨rfl, h0⟩ | ⟨g, cap, cur, rfl, hB, hg, hnc, hm, hs, ht⟩⟩, h2, rfl⟩ := h
  · have : l = [] := List.eq_nil_of_length_eq_zero h0
    subst this
    exact ⟨none, 0, rfl, by omega, .inl ⟨rfl, by simp [h2.2, Value.ownBlock]⟩⟩
  · have hb : Blk w g cur.toList e := by simpa [Blk] using hg
    refine ⟨_, cap, rfl, by unfold maxI; unfold maxLen at hm; omega, .inr ⟨g, 0, Fs, rfl, rfl, cs_of_stk h2 fun j u hj => ?_⟩⟩
    rw [← ht, List.getElem?_take] at hj
    split at hj
    · rw [Nat.zero_add]; exact hb.cell hj
    · cases hj
/-- A cell of the row can be set, to a stack in other memory if that is owned. -/
theorem RowC.upd {i : Nat} (h : RowC e eT w v l F) (hi : i < l.length) : ∃ g cap cs vs F1 Fc F2, v = .slice (some ⟨g, 0, none⟩) l.length cap ∧ F = g :: (F1 ++ (Fc ++ F2)) ∧ Blk w g cs e ∧ i * 4 + 4 ≤ cs.length ∧
    cs[i * 4]? = some (.int .i64 l[i].val) ∧ cs[i * 4 + 1]? = some (.bool l[i].al) ∧ cs[i * 4 + 2]? = some (.int .i64 l[i].nx) ∧ cs[i * 4 + 3]? = some vs ∧ RowT eT w vs l[i].st Fc ∧
    ∀ w' cs' c' vs' Fc' G, Blk w' g cs' e → cs'.length = cs.length → (∀ p, (p < i * 4 ∨ i * 4 + 4 ≤ p) → cs'[p]? = cs[p]?) → cs'[i * 4]? = some (.int .i64 c'.val) → cs'[i * 4 + 1]? = some (.bool c'.al) → cs'[i * 4 + 2]? = some (.int .i64 c'.nx) → cs'[i * 4 + 3]? = some vs' →
      RowT eT w' vs' c'.st Fc' → Chg G w w' → (∀ x ∈ F1 ++ F2, x ∉ G) → RowC e eT w' v (l.set i c') (g :: (F1 ++ (Fc' ++ F2))) := by
  obtain ⟨xs, Fs, h1, h2, rfl⟩ := h
  obtain ⟨g, cap, cs, rfl, hb, hle, hxs, hup⟩ := ownsRow_upd h1 (by omega)
  obtain ⟨vs, F1, Fc, F2, b0, b1, b2, b3, hr, rfl, hst⟩ := h2.upd hi
  have tk : ∀ (zs : List Value) (j : Nat), j < 4 → (zs.take (l.length * 4))[i * 4 + j]? = zs[i * 4 + j]? := fun zs j hj => by rw [List.getElem?_take, if_pos (by omega)]
  have tk0 : ∀ (zs : List Value), (zs.take (l.length * 4))[i * 4]? = zs[i * 4]? := fun zs => tk zs 0 (by omega)
  rw [hxs] at b0 b1 b2 b3
  rw [tk0] at b0
  rw [tk _ _ (by omega)] at b1 b2 b3
  refine ⟨g, cap, cs, vs, F1, Fc, F2, rfl, rfl, hb, by omega, b0, b1, b2, b3, hr, fun w' cs' c' vs' Fc' G hb' hlen ho a0 a1 a2 a3 hr' hk hG => ?_⟩
  refine ⟨cs'.take (l.length * 4), F1 ++ (Fc' ++ F2), by rw [List.length_set]; exact hup w' cs' hb' hlen, hst w' _ c' vs' Fc' ?_ ?_ (by rw [tk0]; exact a0) (by rw [tk _ _ (by omega)]; exact a1) (by rw [tk _ _ (by omega)]; exact a2) (by rw [tk _ _ (by omega)]; exact a3) hr' ?_, rfl⟩
  · rw [hxs]; simp; omega
  · intro p hp
    rw [hxs, List.getElem?_take, List.getElem?_take, ho p hp]
  · intro v l' F' hF hv
    exact hv.chg hk fun x hx => hG x (hF x hx)
end
end
end Go.Proofs.YtnfapbghkmodeaaDoor
