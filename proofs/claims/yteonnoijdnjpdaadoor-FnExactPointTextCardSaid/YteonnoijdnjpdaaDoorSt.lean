/-
  What is proved here: what it is for memory to hold owned rows of statements, nested; that they are kept, read and grown. No function of the program stands here.
-/
import Derived.Test.YteonnoijdnjpdaaDoorMap
import Derived.Test.YteonnoijdnjpdaaDoorValid
import Derived.Test.YteonnoijdnjpdaaDoorCell
namespace Go.Proofs.YteonnoijdnjpdaaDoor
set_option linter.unusedVariables false
set_option linter.unusedSimpArgs false
set_option linter.unnecessarySimpa false
open Go.RowKit

/-! ### Lists of statements -/
def Ss.app : Ss → Ss → Ss
  | .nil, m => m
  | .cons op x y n t e r, m => .cons op x y n t e (r.app m)
theorem Ss.app_nil : ∀ l : Ss, l.app .nil = l
  | .nil => rfl
  | .cons op x y n t e r => by simp [Ss.app, Ss.app_nil r]
theorem Ss.app_assoc : ∀ a b c : Ss, (a.app b).app c = a.app (b.app c)
  | .nil, _, _ => rfl
  | .cons op x y n t e r, b, c => by simp [Ss.app, Ss.app_assoc r b c]
theorem Ss.len_app : ∀ a b : Ss, (a.app b).len = a.len + b.len
  | .nil, b => by simp [Ss.app, Ss.len]
  | .cons op x y n t e r, b => by simp [Ss.app, Ss.len, Ss.len_app r b]; omega
def Ss.one (op x y n : Int) (t e : Ss) : Ss := .cons op x y n t e .nil
def Ss.snoc (a : Ss) (op x y n : Int) (t e : Ss) : Ss := a.app (Ss.one op x y n t e)
theorem Ss.snoc_app (a : Ss) (op x y n : Int) (t e r : Ss) : (a.snoc op x y n t e).app r = a.app (.cons op x y n t e r) := by
  simp [Ss.snoc, Ss.app_assoc, Ss.one, Ss.app]
theorem Ss.len_snoc (a : Ss) (op x y n : Int) (t e : Ss) : (a.snoc op x y n t e).len = a.len + 1 := by simp [Ss.snoc, Ss.len_app, Ss.one, Ss.len]
theorem cntL_app : ∀ a b : Ss, cntL (a.app b) = cntL a + cntL b
  | .nil, b => by simp [Ss.app, cntL]
  | .cons op x y n t e r, b => by simp [Ss.app, cntL, cntL_app r b]; omega
theorem len_le_cntL : ∀ l : Ss, l.len ≤ cntL l
  | .nil => Nat.le_refl _
  | .cons op x y n t e r => by simp only [Ss.len, cntL]; have := len_le_cntL r; omega
/-- What follows below of lists is shown of each list out of those that are smaller. -/
theorem Ss.strong {C : Ss → Prop} (h : ∀ l, (∀ s, cntL s < cntL l → C s) → C l) (l : Ss) : C l := by
  have : ∀ k l, cntL l ≤ k → C l := by
    intro k
    induction k with
    | zero => exact fun l hl => h l fun s hs => by omega
    | succ k ih => exact fun l hl => h l fun s hs => ih s (by omega)
  exact this _ l (Nat.le_refl _)

/-! ### Rows -/
/-- The cells of a row of statements: the lists in them are owned rows. -/
def StkS (e : TypeId) (w : World) : Ss → List Value → List Nat → Prop
  | .nil, xs, F => xs = [] ∧ F = []
  | .cons op x y n t el r, xs, F => ∃ vt ve xt xe Gt Ge Fr xr, xs = .int .i64 op :: .int .i64 x :: .int .i64 y :: .int .i64 n :: vt :: ve :: xr ∧
      F = (vt.ownBlock.toList ++ Gt) ++ ((ve.ownBlock.toList ++ Ge) ++ Fr) ∧ (w.ownsRow 0 e 6 vt t.len xt ∧ StkS e w t xt Gt) ∧ (w.ownsRow 0 e 6 ve el.len xe ∧ StkS e w el xe Ge) ∧ StkS e w r xr Fr
/-- The slice owns a row of statements, and the rows in it. -/
def RowS (e : TypeId) (w : World) (v : Value) (l : Ss) (F : List Nat) : Prop := ∃ xs G, w.ownsRow 0 e 6 v l.len xs ∧ StkS e w l xs G ∧ F = v.ownBlock.toList ++ G
section
variable {e : TypeId} {w w' : World} {v : Value} {F G : List Nat}
theorem StkS.cons_ {op x y n : Int} {t el r : Ss} {xs : List Value} (h : StkS e w (.cons op x y n t el r) xs F) : ∃ vt ve Ft Fe Fr xr, xs = .int .i64 op :: .int .i64 x :: .int .i64 y :: .int .i64 n :: vt :: ve :: xr ∧ F = Ft ++ (Fe ++ Fr) ∧
    RowS e w vt t Ft ∧ RowS e w ve el Fe ∧ StkS e w r xr Fr := by
  obtain ⟨vt, ve, xt, xe, Gt, Ge, Fr, xr, h1, h2, ⟨h3, h4⟩, ⟨h5, h6⟩, h7⟩ := h
  exact ⟨vt, ve, _, _, Fr, xr, h1, h2, ⟨xt, Gt, h3, h4, rfl⟩, ⟨xe, Ge, h5, h6, rfl⟩, h7⟩
theorem StkS.mk {op x y n : Int} {t el r : Ss} {vt ve : Value} {Ft Fe Fr : List Nat} {xr : List Value} (h1 : RowS e w vt t Ft) (h2 : RowS e w ve el Fe) (h3 : StkS e w r xr Fr) :
    StkS e w (.cons op x y n t el r) (.int .i64 op :: .int .i64 x :: .int .i64 y :: .int .i64 n :: vt :: ve :: xr) (Ft ++ (Fe ++ Fr)) := by
  obtain ⟨xt, Gt, h3, h4, rfl⟩ := h1
  obtain ⟨xe, Ge, h5, h6, rfl⟩ := h2
  exact ⟨vt, ve, xt, xe, Gt, Ge, Fr, xr, rfl, rfl, ⟨h3, h4⟩, ⟨h5, h6⟩, ‹_›⟩
theorem StkS.chg (k : Chg G w w') : ∀ (l : Ss) (xs : List Value) (F : List Nat), StkS e w l xs F → (∀ x ∈ F, x ∉ G) → StkS e w' l xs F
  | .nil, _, _, h, _ => h
  | .cons op x y n t el r, _, _, ⟨vt, ve, xt, xe, Gt, Ge, Fr, xr, h1, h2, ⟨h3, h4⟩, ⟨h5, h6⟩, h7⟩, hd => by
    subst h2
    exact ⟨vt, ve, xt, xe, Gt, Ge, Fr, xr, h1, rfl, ⟨ownsRow_chg h3 k fun x hx => hd x (by simp [hx]), StkS.chg k t xt Gt h4 fun x hx => hd x (by simp [hx])⟩,
      ⟨ownsRow_chg h5 k fun x hx => hd x (by simp [hx]), StkS.chg k el xe Ge h6 fun x hx => hd x (by simp [hx])⟩, StkS.chg k r xr Fr h7 fun x hx => hd x (by simp [hx])⟩
theorem StkS.ext (he : Ext w w') {l : Ss} {xs : List Value} {F : List Nat} (h : StkS e w l xs F) : StkS e w' l xs F := StkS.chg (he.chg []) l xs F h (by simp)
theorem StkS.lt : ∀ (l : Ss) (xs : List Value) (F : List Nat), StkS e w l xs F → ∀ x ∈ F, x < w.heap.size
  | .nil, _, _, h => by rw [h.2]; simp
  | .cons op x y n t el r, _, _, ⟨vt, ve, xt, xe, Gt, Ge, Fr, xr, h1, h2, ⟨h3, h4⟩, ⟨h5, h6⟩, h7⟩ => by
    subst h2
    intro z hz
    simp only [List.mem_append] at hz
    rcases hz with (hz | hz) | (hz | hz) | hz
    · exact (h3.lt z (by simpa using hz)).2
    · exact StkS.lt t xt Gt h4 z hz
    · exact (h5.lt z (by simpa using hz)).2
    · exact StkS.lt el xe Ge h6 z hz
    · exact StkS.lt r xr Fr h7 z hz
theorem StkS.length : ∀ (l : Ss) (xs : List Value) (F : List Nat), StkS e w l xs F → xs.length = l.len * 6
  | .nil, _, _, h => by rw [h.1]; rfl
  | .cons op x y n t el r, _, _, ⟨vt, ve, xt, xe, Gt, Ge, Fr, xr, h1, h2, _, _, h7⟩ => by
    have := StkS.length r xr Fr h7
    subst h1
    simp only [List.length_cons, Ss.len, this]
    omega
theorem row_one {k m : Nat} {xs : List Value} (h : w.ownsRow 0 e k v m xs) : v.oneCell' = true := by
  obtain ⟨_, ⟨rfl, _⟩ | ⟨g, cap, cur, rfl, _⟩⟩ := h <;> rfl
theorem StkS.one : ∀ (l : Ss) (xs : List Value) (F : List Nat), StkS e w l xs F → ∀ u ∈ xs, u.oneCell' = true
  | .nil, _, _, h => by rw [h.1]; simp
  | .cons op x y n t el r, _, _, ⟨vt, ve, xt, xe, Gt, Ge, Fr, xr, h1, h2, ⟨h3, _⟩, ⟨h5, _⟩, h7⟩ => by
    have := StkS.one r xr Fr h7
    subst h1
    intro u hu
    simp only [List.mem_cons] at hu
    rcases hu with rfl | rfl | rfl | rfl | rfl | rfl | hu
    · rfl
    · rfl
    · rfl
    · rfl
    · exact row_one h3
    · exact row_one h5
    · exact this u hu
theorem StkS.append : ∀ (l m : Ss) (xs ys : List Value) (F G : List Nat), StkS e w l xs F → StkS e w m ys G → StkS e w (l.app m) (xs ++ ys) (F ++ G)
  | .nil, m, _, _, _, _, h, hm => by obtain ⟨rfl, rfl⟩ := h; exact hm
  | .cons op x y n t el r, m, _, ys, _, G, ⟨vt, ve, xt, xe, Gt, Ge, Fr, xr, h1, h2, h3, h5, h7⟩, hm => by
    subst h1; subst h2
    exact ⟨vt, ve, xt, xe, Gt, Ge, Fr ++ G, xr ++ ys, rfl, by simp, h3, h5, StkS.append r m xr ys Fr G h7 hm⟩
theorem StkS.split : ∀ (l m : Ss) (xs : List Value) (F : List Nat), StkS e w (l.app m) xs F → ∃ xs1 xs2 F1 F2, xs = xs1 ++ xs2 ∧ F = F1 ++ F2 ∧ StkS e w l xs1 F1 ∧ StkS e w m xs2 F2
  | .nil, m, xs, F, h => ⟨[], xs, [], F, rfl, rfl, ⟨rfl, rfl⟩, h⟩
  | .cons op x y n t el r, m, _, _, ⟨vt, ve, xt, xe, Gt, Ge, Fr, xr, h1, h2, h3, h5, h7⟩ => by
    obtain ⟨xs1, xs2, F1, F2, rfl, rfl, a1, a2⟩ := StkS.split r m xr Fr h7
    subst h1; subst h2
    exact ⟨_, xs2, _, F2, by rw [← List.cons_append, ← List.cons_append, ← List.cons_append, ← List.cons_append, ← List.cons_append, ← List.cons_append], by simp [List.append_assoc], ⟨vt, ve, xt, xe, Gt, Ge, F1, xs1, rfl, rfl, h3, h5, a1⟩, a2⟩
variable {l : Ss}
theorem RowS.chg (h : RowS e w v l F) (k : Chg G w w') (hd : ∀ x ∈ F, x ∉ G) : RowS e w' v l F := by
  obtain ⟨xs, Fs, h1, h2, rfl⟩ := h
  exact ⟨xs, Fs, ownsRow_chg h1 k fun x hx => hd x (by simp [hx]), StkS.chg k l xs Fs h2 fun x hx => hd x (by simp [hx]), rfl⟩
theorem RowS.ext (h : RowS e w v l F) (he : Ext w w') : RowS e w' v l F := h.chg (he.chg []) (by simp)
theorem RowS.lt (h : RowS e w v l F) : ∀ x ∈ F, x < w.heap.size := by
  obtain ⟨xs, Fs, h1, h2, rfl⟩ := h
  intro x hx
  rcases List.mem_append.1 hx with hx | hx
  · exact (h1.lt x (by simpa using hx)).2
  · exact StkS.lt l xs Fs h2 x hx
theorem ownsRow_slice {k m B : Nat} {xs : List Value} (h : w.ownsRow B e k v m xs) : ∃ A c, v = .slice A m c ∧ m ≤ c ∧ c ≤ maxI * 2 - 1 := by
  obtain ⟨hl, ⟨rfl, h0⟩ | ⟨g, cap, cur, rfl, hB, hg, hnc, hm, _⟩⟩ := h
  · exact ⟨none, 0, by rw [h0], by omega, by omega⟩
  · exact ⟨_, cap, rfl, hnc, by unfold maxI; unfold maxLen at hm; omega⟩
theorem RowS.slice (h : RowS e w v l F) : ∃ A c, v = .slice A l.len c ∧ l.len ≤ c ∧ c ≤ maxI * 2 - 1 := by
  obtain ⟨xs, Fs, h1, h2, rfl⟩ := h
  exact ownsRow_slice h1
theorem RowS.one (h : RowS e w v l F) : v.oneCell' = true := by
  obtain ⟨xs, Fs, h1, h2, rfl⟩ := h
  exact row_one h1
theorem sl_of_row {m : Nat} {xs : List Value} {Gs : List Nat} {c : Cs} (h : w.ownsRow 0 e 6 v m xs) (h0 : m = 0 → Gs = []) (hc : ∀ b, (∀ j u, xs[j]? = some u → w.cell? ⟨b, 0 + j, none⟩ = some u) → CsAt w c b 0 Gs) :
    SlV (CsAt w c) m v (v.ownBlock.toList ++ Gs) := by
  obtain ⟨hl, ⟨rfl, hm0⟩ | ⟨g, cap, cur, rfl, hB, hg, hnc, hm, hs, ht⟩⟩ := h
  · exact ⟨none, 0, by rw [hm0], by omega, .inl ⟨hm0, by rw [h0 hm0]; rfl⟩⟩
  · have hb : Blk w g cur.toList e := by simpa [Blk] using hg
    refine ⟨_, cap, rfl, by unfold maxI; unfold maxLen at hm; omega, .inr ⟨g, 0, Gs, rfl, rfl, hc g fun j u hj => ?_⟩⟩
    rw [← ht, List.getElem?_take] at hj
    split at hj
    · rw [Nat.zero_add]; exact hb.cell hj
    · cases hj
theorem cs_of_stkS : ∀ (l : Ss) (xs : List Value) (F : List Nat) (b o : Nat), StkS e w l xs F → (∀ j u, xs[j]? = some u → w.cell? ⟨b, o + j, none⟩ = some u) → CsAt w (encS l) b o F
  | .nil, _, _, _, _, h, _ => h.2
  | .cons op x y n t el r, _, _, b, o, ⟨vt, ve, xt, xe, Gt, Ge, Fr, xr, h1, h2, ⟨h3, h4⟩, ⟨h5, h6⟩, h7⟩, hc => by
    subst h1; subst h2
    have nil_of : ∀ (l : Ss) xs G, StkS e w l xs G → l.len = 0 → G = [] := fun l xs G h h0 => by
      have := Ss.len_zero h0
      subst this
      exact h.2
    refine ⟨by simpa using hc 0 _ rfl, by simpa using hc 1 _ rfl, by simpa using hc 2 _ rfl, by simpa using hc 3 _ rfl, vt, _, _, rfl, by simpa using hc 4 _ rfl, ?_, ve, _, _, rfl, by simpa using hc 5 _ rfl, ?_, cs_of_stkS r xr Fr b (o + 1 + 1 + 1 + 1 + 1 + 1) h7 fun j u hj => ?_⟩
    · exact sl_of_row h3 (nil_of _ _ _ h4) fun b hb => cs_of_stkS t xt Gt b 0 h4 hb
    · exact sl_of_row h5 (nil_of _ _ _ h6) fun b hb => cs_of_stkS el xe Ge b 0 h6 hb
    · rw [show o + 1 + 1 + 1 + 1 + 1 + 1 + j = o + (j + 6) from by omega]
      exact hc (j + 6) u (by simpa using hj)
theorem RowS.sts (h : RowS e w v l F) : StS w v l F := by
  obtain ⟨xs, Fs, h1, h2, rfl⟩ := h
  refine sl_of_row h1 (fun h0 => ?_) fun b hb => cs_of_stkS l xs Fs b 0 h2 hb
  have := Ss.len_zero h0
  subst this
  exact h2.2
theorem RowS.nil_ (e : TypeId) (w : World) : RowS e w (.slice none 0 0) .nil [] := ⟨[], [], ownsRow_base0 (World.ownsRow_nil w 0 _ _), ⟨rfl, rfl⟩, rfl⟩
end
/-- A row of statements in new memory. -/
def NewS (e : TypeId) (l : Ss) (w : World) (v : Value) (w' : World) : Prop := (∃ F, RowS e w' v l F ∧ F.Nodup ∧ ∀ b ∈ F, w.heap.size ≤ b) ∧ Ext w w'
/-- The same, and it can grow. -/
def GrowS (e : TypeId) (l : Ss) (w : World) (v : Value) (w' : World) : Prop :=
  (∃ xs Fs, w'.ownsRow w.heap.size e 6 v l.len xs ∧ StkS e w' l xs Fs ∧ (v.ownBlock.toList ++ Fs).Nodup ∧ ∀ b ∈ v.ownBlock.toList ++ Fs, w.heap.size ≤ b) ∧ Ext w w'
theorem GrowS.new {e : TypeId} {l : Ss} {w w' : World} {v : Value} (h : GrowS e l w v w') : NewS e l w v w' := by
  obtain ⟨⟨xs, Fs, h1, h2, h3, h4⟩, h5⟩ := h
  exact ⟨⟨_, ⟨xs, Fs, ownsRow_base0 h1, h2, rfl⟩, h3, h4⟩, h5⟩
theorem NewS.grow {e : TypeId} {l : Ss} {w w' : World} {v : Value} (h : NewS e l w v w') : GrowS e l w v w' := by
  obtain ⟨⟨F, ⟨xs, Fs, h1, h2, rfl⟩, h3, h4⟩, h5⟩ := h
  refine ⟨⟨xs, Fs, ?_, h2, h3, h4⟩, h5⟩
  obtain ⟨hl, h | ⟨g, cap, cur, rfl, hB, rest⟩⟩ := h1
  · exact ⟨hl, .inl h⟩
  · exact ⟨hl, .inr ⟨g, cap, cur, rfl, h4 g (by simp [Value.ownBlock]), rest⟩⟩
theorem NewS.ext {e : TypeId} {l : Ss} {w w' w'' : World} {v : Value} (h : NewS e l w v w') (he : Ext w' w'') : NewS e l w v w'' := by
  obtain ⟨⟨F, h1, h2, h3⟩, h4⟩ := h
  exact ⟨⟨F, h1.ext he, h2, h3⟩, h4.trans he⟩
theorem NewS.mono {e : TypeId} {l : Ss} {w0 w w' : World} {v : Value} (h : NewS e l w v w') (he : Ext w0 w) : NewS e l w0 v w' := by
  obtain ⟨⟨F, h1, h2, h3⟩, h4⟩ := h
  exact ⟨⟨F, h1, h2, fun b hb => Nat.le_trans he.size (h3 b hb)⟩, he.trans h4⟩
theorem NewS.nil_ (e : TypeId) {w w' : World} (he : Ext w w') : NewS e .nil w (.slice none 0 0) w' := ⟨⟨[], RowS.nil_ e w', by simp, by simp⟩, he⟩
theorem nodup_own (v : Value) : v.ownBlock.toList.Nodup := by cases v.ownBlock <;> simp
/-- One more statement is appended. -/
theorem GrowS.step {e : TypeId} {l t el : Ss} {op x y n : Int} {w w1 w2 : World} {v v' vt ve : Value} {Ft Fe : List Nat} {xs : List Value} {Fs : List Nat}
    (h1 : w1.ownsRow w.heap.size e 6 v l.len xs) (h2 : StkS e w1 l xs Fs) (h3 : (v.ownBlock.toList ++ Fs).Nodup) (h4 : ∀ b ∈ v.ownBlock.toList ++ Fs, w.heap.size ≤ b) (he : Ext w w1)
    (ht : RowS e w1 vt t Ft) (hel : RowS e w1 ve el Fe) (hnd : (Ft ++ Fe).Nodup) (hd : ∀ x ∈ Ft ++ Fe, x ∉ v.ownBlock.toList ++ Fs) (hB : ∀ x ∈ Ft ++ Fe, w.heap.size ≤ x)
    (k1 : w2.ownsRow w.heap.size e 6 v' (l.len + 1) (xs ++ [.int .i64 op, .int .i64 x, .int .i64 y, .int .i64 n, vt, ve])) (k2 : w1.grownBy w2 v.ownBlock) (k3 : v'.ownBlock = v.ownBlock ∨ ∃ b, v'.ownBlock = some b ∧ w1.heap.size ≤ b) : GrowS e (l.snoc op x y n t el) w v' w2 := by
  have hc := grown_chg k2
  have hdis : ∀ x ∈ Fs ++ (Ft ++ Fe), x ∉ v.ownBlock.toList := fun x hx hm => by
    rcases List.mem_append.1 hx with hx | hx
    · exact (List.nodup_append.1 h3).2.2 x hm x hx rfl
    · exact hd x hx (by simp [hm])
  have hlt : ∀ x ∈ Fs ++ (Ft ++ Fe), x < w1.heap.size := fun x hx => by
    rcases List.mem_append.1 hx with hx | hx
    · exact StkS.lt _ _ _ h2 x hx
    · rcases List.mem_append.1 hx with hx | hx
      · exact ht.lt x hx
      · exact hel.lt x hx
  have hnew : ∀ x ∈ v'.ownBlock.toList, x ∉ Fs ++ (Ft ++ Fe) := fun x hx hm => by
    rcases k3 with k3 | ⟨b, k3, hb⟩
    · rw [k3] at hx; exact hdis x hm hx
    · rw [k3] at hx; simp at hx; subst hx; have := hlt x hm; omega
  have hone := StkS.mk (op := op) (x := x) (y := y) (n := n) (ht.chg hc fun x hx => hdis x (by simp [hx])) (hel.chg hc fun x hx => hdis x (by simp [hx])) (r := .nil) (xr := []) (Fr := []) ⟨rfl, rfl⟩
  rw [List.append_nil] at hone
  refine ⟨⟨_, Fs ++ (Ft ++ Fe), by rw [Ss.len_snoc]; exact k1, StkS.append _ _ _ _ _ _ (StkS.chg hc _ _ _ h2 fun x hx => hdis x (by simp [hx])) hone, ?_, ?_⟩, ?_⟩
  · refine List.nodup_append.2 ⟨nodup_own _, List.nodup_append.2 ⟨(List.nodup_append.1 h3).2.1, hnd, fun a ha b hb e => hd b hb (by simp [← e, ha])⟩, fun a ha b hb e => hnew a ha (e ▸ hb)⟩
  · intro b hb
    rcases List.mem_append.1 hb with hb | hb
    · rcases k3 with k3 | ⟨b', k3, hb'⟩
      · exact h4 b (by rw [k3] at hb; simp [hb])
      · rw [k3] at hb; simp at hb; subst hb; have := he.size_le; omega
    · rcases List.mem_append.1 hb with hb | hb
      · exact h4 b (by simp [hb])
      · exact hB b hb
  · exact ext_grown he k2 fun b hb => h4 b (by simp [hb])
/-- A statement of a row is set: its numbers and its lists. -/
theorem RowS.upd {e : TypeId} {l r t el : Ss} {op x y n : Int} {w : World} {v : Value} {F : List Nat} (h : RowS e w v (l.app (.cons op x y n t el r)) F) :
    ∃ g cap cs vt ve F1 Ft Fe F2, v = .slice (some ⟨g, 0, none⟩) (l.app (.cons op x y n t el r)).len cap ∧ F = g :: (F1 ++ (Ft ++ (Fe ++ F2))) ∧ Blk w g cs e ∧ l.len * 6 + 6 ≤ cs.length ∧
    (∀ (j : Nat) u, [Value.int .i64 op, .int .i64 x, .int .i64 y, .int .i64 n, vt, ve][j]? = some u → cs[l.len * 6 + j]? = some u) ∧ RowS e w vt t Ft ∧ RowS e w ve el Fe ∧
    ∀ w' cs' op' x' y' n' t' el' vt' ve' Ft' Fe' G, Blk w' g cs' e → cs'.length = cs.length → (∀ p, (p < l.len * 6 ∨ l.len * 6 + 6 ≤ p) → cs'[p]? = cs[p]?) →
      (∀ (j : Nat) u, [Value.int .i64 op', .int .i64 x', .int .i64 y', .int .i64 n', vt', ve'][j]? = some u → cs'[l.len * 6 + j]? = some u) →
      RowS e w' vt' t' Ft' → RowS e w' ve' el' Fe' → Chg G w w' → (∀ x ∈ F1 ++ F2, x ∉ G) → RowS e w' v (l.app (.cons op' x' y' n' t' el' r)) (g :: (F1 ++ (Ft' ++ (Fe' ++ F2)))) := by
  obtain ⟨xs, Fs, h1, h2, rfl⟩ := h
  obtain ⟨xs1, xs2, F1, F2', rfl, rfl, a1, a2⟩ := StkS.split l _ xs Fs h2
  obtain ⟨vt, ve, Ft, Fe, F2, xr, rfl, rfl, b1, b2, b3⟩ := a2.cons_
  have hl1 := StkS.length _ _ _ a1
  have hlen : (l.app (.cons op x y n t el r)).len = l.len + 1 + r.len := by simp [Ss.len_app, Ss.len]; omega
  obtain ⟨g, cap, cs, rfl, hb, hle, hxs, hup⟩ := ownsRow_upd h1 (by omega)
  refine ⟨g, cap, cs, vt, ve, F1, Ft, Fe, F2, rfl, rfl, hb, by omega, fun j u hu => ?_, b1, b2, fun w' cs' op' x' y' n' t' el' vt' ve' Ft' Fe' G hb' hl' ho hin hr1 hr2 hc hG => ?_⟩
  · have hj : j < 6 := (List.getElem?_eq_some_iff.1 hu).1
    have e1 : (cs.take ((l.app (.cons op x y n t el r)).len * 6))[l.len * 6 + j]? = cs[l.len * 6 + j]? := by rw [List.getElem?_take, if_pos (by omega)]
    rw [← e1, ← hxs, List.getElem?_append_right (by omega), hl1, show l.len * 6 + j - l.len * 6 = j from by omega, ← hu]
    match j, hj with
    | 0, _ => rfl
    | 1, _ => rfl
    | 2, _ => rfl
    | 3, _ => rfl
    | 4, _ => rfl
    | 5, _ => rfl
  · have hl3 := StkS.length _ _ _ b3
    have hlen' : (l.app (.cons op' x' y' n' t' el' r)).len = (l.app (.cons op x y n t el r)).len := by simp [Ss.len_app, Ss.len]
    have hcs : cs'.take ((l.app (.cons op x y n t el r)).len * 6) = xs1 ++ (.int .i64 op' :: .int .i64 x' :: .int .i64 y' :: .int .i64 n' :: vt' :: ve' :: xr) := by
      apply List.ext_getElem?
      intro p
      have hx := congrArg (fun z => z[p]?) hxs
      by_cases hp : p < (l.app (.cons op x y n t el r)).len * 6
      · rw [List.getElem?_take, if_pos hp]
        rw [List.getElem?_take, if_pos hp] at hx
        by_cases hp1 : p < l.len * 6
        · rw [ho p (.inl hp1), ← hx, List.getElem?_append_left (by omega), List.getElem?_append_left (by omega)]
        · rw [List.getElem?_append_right (by omega), hl1] at hx ⊢
          by_cases hp2 : p < l.len * 6 + 6
          · obtain ⟨j, rfl⟩ : ∃ j, p = l.len * 6 + j := ⟨p - l.len * 6, by omega⟩
            have hj : j < 6 := by omega
            rw [show l.len * 6 + j - l.len * 6 = j from by omega]
            match j, hj with
            | 0, _ => exact hin 0 _ rfl
            | 1, _ => exact hin 1 _ rfl
            | 2, _ => exact hin 2 _ rfl
            | 3, _ => exact hin 3 _ rfl
            | 4, _ => exact hin 4 _ rfl
            | 5, _ => exact hin 5 _ rfl
          · rw [ho p (.inr (by omega)), ← hx]
            obtain ⟨q, hq⟩ : ∃ q, p - l.len * 6 = q + 6 := ⟨p - l.len * 6 - 6, by omega⟩
            rw [hq]
            rfl
      · rw [List.getElem?_eq_none (by simp; omega), List.getElem?_eq_none]
        simp only [List.length_append, List.length_cons, hl3, hl1]
        omega
    refine ⟨_, F1 ++ (Ft' ++ (Fe' ++ F2)), by rw [hlen']; exact hcs ▸ hup w' cs' hb' hl', StkS.append _ _ _ _ _ _ (StkS.chg hc _ _ _ a1 fun x hx => hG x (by simp [hx])) (StkS.mk hr1 hr2 (StkS.chg hc _ _ _ b3 fun x hx => hG x (by simp [hx]))), rfl⟩
end Go.Proofs.YteonnoijdnjpdaaDoor
