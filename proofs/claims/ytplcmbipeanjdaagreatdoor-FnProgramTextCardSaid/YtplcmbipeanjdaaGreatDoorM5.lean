/-
  What is proved here: what it is for memory to hold owned rows of statements, nested; that they are kept, read and grown. No function of the program stands here; what the laws' helpers on statements compute: their size, copies, equality; the text of programs, and what the program's reader does with texts, said of lists of bytes: a valid program is read back from its text. No function of the program stands here; operations on strings, said of lists of bytes. No function of the program stands here; the laws' copies of statements and programs, what marks do to owned rows of statements, and what held answers; returns of several results, some of them by value out of a block. No function of the program stands here.
-/
import Derived.Test.YtplcmbipeanjdaaGreatDoorM4
import Derived.Test.YtplcmbipeanjdaaGreatDoorM3
import Derived.Laws.IdiomStrings
import Derived.Lib.Strings
namespace Go.Proofs.YtplcmbipeanjdaaGreatDoor
set_option linter.unusedVariables false
set_option linter.unusedSimpArgs false
set_option linter.unnecessarySimpa false
open Go.RowKit

/-! ### Lists of statements -/
def Ss.app : Ss → Ss → Ss
  | .nil, m => m
  | .cons op x y n t e r, m => .cons op x y n t e (r.app m)
theorem Ss.app_nil : ∀ l : Ss, l.app .nil = l
  | .nil => rfl
  | .cons op x y n t e r => by simp [Ss.app, Ss.app_nil r]
theorem Ss.app_assoc : ∀ a b c : Ss, (a.app b).app c = a.app (b.app c)
  | .nil, _, _ => rfl
  | .cons op x y n t e r, b, c => by simp [Ss.app, Ss.app_assoc r b c]
theorem Ss.len_app : ∀ a b : Ss, (a.app b).len = a.len + b.len
  | .nil, b => by simp [Ss.app, Ss.len]
  | .cons op x y n t e r, b => by simp [Ss.app, Ss.len, Ss.len_app r b]; omega
def Ss.one (op x y n : Int) (t e : Ss) : Ss := .cons op x y n t e .nil
def Ss.snoc (a : Ss) (op x y n : Int) (t e : Ss) : Ss := a.app (Ss.one op x y n t e)
theorem Ss.snoc_app (a : Ss) (op x y n : Int) (t e r : Ss) : (a.snoc op x y n t e).app r = a.app (.cons op x y n t e r) := by
  simp [Ss.snoc, Ss.app_assoc, Ss.one, Ss.app]
theorem Ss.len_snoc (a : Ss) (op x y n : Int) (t e : Ss) : (a.snoc op x y n t e).len = a.len + 1 := by simp [Ss.snoc, Ss.len_app, Ss.one, Ss.len]
theorem cntL_app : ∀ a b : Ss, cntL (a.app b) = cntL a + cntL b
  | .nil, b => by simp [Ss.app, cntL]
  | .cons op x y n t e r, b => by simp [Ss.app, cntL, cntL_app r b]; omega
theorem len_le_cntL : ∀ l : Ss, l.len ≤ cntL l
  | .nil => Nat.le_refl _
  | .cons op x y n t e r => by simp only [Ss.len, cntL]; have := len_le_cntL r; omega
/-- What follows below of lists is shown of each list out of those that are smaller. -/
theorem Ss.strong {C : Ss → Prop} (h : ∀ l, (∀ s, cntL s < cntL l → C s) → C l) (l : Ss) : C l := by
  have : ∀ k l, cntL l ≤ k → C l := by
    intro k
    induction k with
    | zero => exact fun l hl => h l fun s hs => by omega
    | succ k ih => exact fun l hl => h l fun s hs => ih s (by omega)
  exact this _ l (Nat.le_refl _)

/-! ### Rows -/
/-- The cells of a row of statements: the lists in them are owned rows. -/
def StkS (e : TypeId) (w : World) : Ss → List Value → List Nat → Prop
  | .nil, xs, F => xs = [] ∧ F = []
  | .cons op x y n t el r, xs, F => ∃ vt ve xt xe Gt Ge Fr xr, xs = .int .i64 op :: .int .i64 x :: .int .i64 y :: .int .i64 n :: vt :: ve :: xr ∧
      F = (vt.ownBlock.toList ++ Gt) ++ ((ve.ownBlock.toList ++ Ge) ++ Fr) ∧ (w.ownsRow 0 e 6 vt t.len xt ∧ StkS e w t xt Gt) ∧ (w.ownsRow 0 e 6 ve el.len xe ∧ StkS e w el xe Ge) ∧ StkS e w r xr Fr
/-- The slice owns a row of statements, and the rows in it. -/
def RowS (e : TypeId) (w : World) (v : Value) (l : Ss) (F : List Nat) : Prop := ∃ xs G, w.ownsRow 0 e 6 v l.len xs ∧ StkS e w l xs G ∧ F = v.ownBlock.toList ++ G
section
variable {e : TypeId} {w w' : World} {v : Value} {F G : List Nat}
theorem StkS.cons_ {op x y n : Int} {t el r : Ss} {xs : List Value} (h : StkS e w (.cons op x y n t el r) xs F) : ∃ vt ve Ft Fe Fr xr, xs = .int .i64 op :: .int .i64 x :: .int .i64 y :: .int .i64 n :: vt :: ve :: xr ∧ F = Ft ++ (Fe ++ Fr) ∧
    RowS e w vt t Ft ∧ RowS e w ve el Fe ∧ StkS e w r xr Fr := by
  obtain ⟨vt, ve, xt, xe, Gt, Ge, Fr, xr, h1, h2, ⟨h3, h4⟩, ⟨h5, h6⟩, h7⟩ := h
  exact ⟨vt, ve, _, _, Fr, xr, h1, h2, ⟨xt, Gt, h3, h4, rfl⟩, ⟨xe, Ge, h5, h6, rfl⟩, h7⟩
theorem StkS.mk {op x y n : Int} {t el r : Ss} {vt ve : Value} {Ft Fe Fr : List Nat} {xr : List Value} (h1 : RowS e w vt t Ft) (h2 : RowS e w ve el Fe) (h3 : StkS e w r xr Fr) :
    StkS e w (.cons op x y n t el r) (.int .i64 op :: .int .i64 x :: .int .i64 y :: .int .i64 n :: vt :: ve :: xr) (Ft ++ (Fe ++ Fr)) := by
  obtain ⟨xt, Gt, h3, h4, rfl⟩ := h1
  obtain ⟨xe, Ge, h5, h6, rfl⟩ := h2
  exact ⟨vt, ve, xt, xe, Gt, Ge, Fr, xr, rfl, rfl, ⟨h3, h4⟩, ⟨h5, h6⟩, ‹_›⟩
theorem StkS.chg (k : Chg G w w') : ∀ (l : Ss) (xs : List Value) (F : List Nat), StkS e w l xs F → (∀ x ∈ F, x ∉ G) → StkS e w' l xs F
  | .nil, _, _, h, _ => h
  | .cons op x y n t el r, _, _, ⟨vt, ve, xt, xe, Gt, Ge, Fr, xr, h1, h2, ⟨h3, h4⟩, ⟨h5, h6⟩, h7⟩, hd => by
    subst h2
    exact ⟨vt, ve, xt, xe, Gt, Ge, Fr, xr, h1, rfl, ⟨ownsRow_chg h3 k fun x hx => hd x (by simp [hx]), StkS.chg k t xt Gt h4 fun x hx => hd x (by simp [hx])⟩,
      ⟨ownsRow_chg h5 k fun x hx => hd x (by simp [hx]), StkS.chg k el xe Ge h6 fun x hx => hd x (by simp [hx])⟩, StkS.chg k r xr Fr h7 fun x hx => hd x (by simp [hx])⟩
theorem StkS.ext (he : Ext w w') {l : Ss} {xs : List Value} {F : List Nat} (h : StkS e w l xs F) : StkS e w' l xs F := StkS.chg (he.chg []) l xs F h (by simp)
theorem StkS.lt : ∀ (l : Ss) (xs : List Value) (F : List Nat), StkS e w l xs F → ∀ x ∈ F, x < w.heap.size
  | .nil, _, _, h => by rw [h.2]; simp
  | .cons op x y n t el r, _, _, ⟨vt, ve, xt, xe, Gt, Ge, Fr, xr, h1, h2, ⟨h3, h4⟩, ⟨h5, h6⟩, h7⟩ => by
    subst h2
    intro z hz
    simp only [List.mem_append] at hz
    rcases hz with (hz | hz) | (hz | hz) | hz
    · exact (h3.lt z (by simpa using hz)).2
    · exact StkS.lt t xt Gt h4 z hz
    · exact (h5.lt z (by simpa using hz)).2
    · exact StkS.lt el xe Ge h6 z hz
    · exact StkS.lt r xr Fr h7 z hz
theorem StkS.length : ∀ (l : Ss) (xs : List Value) (F : List Nat), StkS e w l xs F → xs.length = l.len * 6
  | .nil, _, _, h => by rw [h.1]; rfl
  | .cons op x y n t el r, _, _, ⟨vt, ve, xt, xe, Gt, Ge, Fr, xr, h1, h2, _, _, h7⟩ => by
    have := StkS.length r xr Fr h7
    subst h1
    simp only [List.length_cons, Ss.len, this]
    omega
theorem row_one {k m : Nat} {xs : List Value} (h : w.ownsRow 0 e k v m xs) : v.oneCell' = true := by
  obtain ⟨_, ⟨rfl, _⟩ | ⟨g, cap, cur, rfl, _⟩⟩ := h <;> rfl
theorem StkS.one : ∀ (l : Ss) (xs : List Value) (F : List Nat), StkS e w l xs F → ∀ u ∈ xs, u.oneCell' = true
  | .nil, _, _, h => by rw [h.1]; simp
  | .cons op x y n t el r, _, _, ⟨vt, ve, xt, xe, Gt, Ge, Fr, xr, h1, h2, ⟨h3, _⟩, ⟨h5, _⟩, h7⟩ => by
    have := StkS.one r xr Fr h7
    subst h1
    intro u hu
    simp only [List.mem_cons] at hu
    rcases hu with rfl | rfl | rfl | rfl | rfl | rfl | hu
    · rfl
    · rfl
    · rfl
    · rfl
    · exact row_one h3
    · exact row_one h5
    · exact this u hu
theorem StkS.append : ∀ (l m : Ss) (xs ys : List Value) (F G : List Nat), StkS e w l xs F → StkS e w m ys G → StkS e w (l.app m) (xs ++ ys) (F ++ G)
  | .nil, m, _, _, _, _, h, hm => by obtain ⟨rfl, rfl⟩ := h; exact hm
  | .cons op x y n t el r, m, _, ys, _, G, ⟨vt, ve, xt, xe, Gt, Ge, Fr, xr, h1, h2, h3, h5, h7⟩, hm => by
    subst h1; subst h2
    exact ⟨vt, ve, xt, xe, Gt, Ge, Fr ++ G, xr ++ ys, rfl, by simp, h3, h5, StkS.append r m xr ys Fr G h7 hm⟩
theorem StkS.split : ∀ (l m : Ss) (xs : List Value) (F : List Nat), StkS e w (l.app m) xs F → ∃ xs1 xs2 F1 F2, xs = xs1 ++ xs2 ∧ F = F1 ++ F2 ∧ StkS e w l xs1 F1 ∧ StkS e w m xs2 F2
  | .nil, m, xs, F, h => ⟨[], xs, [], F, rfl, rfl, ⟨rfl, rfl⟩, h⟩
  | .cons op x y n t el r, m, _, _, ⟨vt, ve, xt, xe, Gt, Ge, Fr, xr, h1, h2, h3, h5, h7⟩ => by
    obtain ⟨xs1, xs2, F1, F2, rfl, rfl, a1, a2⟩ := StkS.split r m xr Fr h7
    subst h1; subst h2
    exact ⟨_, xs2, _, F2, by rw [← List.cons_append, ← List.cons_append, ← List.cons_append, ← List.cons_append, ← List.cons_append, ← List.cons_append], by simp [List.append_assoc], ⟨vt, ve, xt, xe, Gt, Ge, F1, xs1, rfl, rfl, h3, h5, a1⟩, a2⟩
variable {l : Ss}
theorem RowS.chg (h : RowS e w v l F) (k : Chg G w w') (hd : ∀ x ∈ F, x ∉ G) : RowS e w' v l F := by
  obtain ⟨xs, Fs, h1, h2, rfl⟩ := h
  exact ⟨xs, Fs, ownsRow_chg h1 k fun x hx => hd x (by simp [hx]), StkS.chg k l xs Fs h2 fun x hx => hd x (by simp [hx]), rfl⟩
theorem RowS.ext (h : RowS e w v l F) (he : Ext w w') : RowS e w' v l F := h.chg (he.chg []) (by simp)
theorem RowS.lt (h : RowS e w v l F) : ∀ x ∈ F, x < w.heap.size := by
  obtain ⟨xs, Fs, h1, h2, rfl⟩ := h
  intro x hx
  rcases List.mem_append.1 hx with hx | hx
  · exact (h1.lt x (by simpa using hx)).2
  · exact StkS.lt l xs Fs h2 x hx
theorem ownsRow_slice {k m B : Nat} {xs : List Value} (h : w.ownsRow B e k v m xs) : ∃ A c, v = .slice A m c ∧ m ≤ c ∧ c ≤ maxI * 2 - 1 := by
  obtain ⟨hl, ⟨rfl, h0⟩ | ⟨g, cap, cur, rfl, hB, hg, hnc, hm, _⟩⟩ := h
  · exact ⟨none, 0, by rw [h0], by omega, by omega⟩
  · exact ⟨_, cap, rfl, hnc, by unfold maxI; unfold maxLen at hm; omega⟩
theorem RowS.slice (h : RowS e w v l F) : ∃ A c, v = .slice A l.len c ∧ l.len ≤ c ∧ c ≤ maxI * 2 - 1 := by
  obtain ⟨xs, Fs, h1, h2, rfl⟩ := h
  exact ownsRow_slice h1
theorem RowS.one (h : RowS e w v l F) : v.oneCell' = true := by
  obtain ⟨xs, Fs, h1, h2, rfl⟩ := h
  exact row_one h1
theorem sl_of_row {m : Nat} {xs : List Value} {Gs : List Nat} {c : Cs} (h : w.ownsRow 0 e 6 v m xs) (h0 : m = 0 → Gs = []) (hc : ∀ b, (∀ j u, xs[j]? = some u → w.cell? ⟨b, 0 + j, none⟩ = some u) → CsAt w c b 0 Gs) :
    SlV (CsAt w c) m v (v.ownBlock.toList ++ Gs) := by
  obtain ⟨hl, ⟨rfl, hm0⟩ | ⟨g, cap, cur, rfl, hB, hg, hnc, hm, hs, ht⟩⟩ := h
  · exact ⟨none, 0, by rw [hm0], by omega, .inl ⟨hm0, by rw [h0 hm0]; rfl⟩⟩
  · have hb : Blk w g cur.toList e := by simpa [Blk] using hg
    refine ⟨_, cap, rfl, by unfold maxI; unfold maxLen at hm; omega, .inr ⟨g, 0, Gs, rfl, rfl, hc g fun j u hj => ?_⟩⟩
    rw [← ht, List.getElem?_take] at hj
    split at hj
    · rw [Nat.zero_add]; exact hb.cell hj
    · cases hj
theorem cs_of_stkS : ∀ (l : Ss) (xs : List Value) (F : List Nat) (b o : Nat), StkS e w l xs F → (∀ j u, xs[j]? = some u → w.cell? ⟨b, o + j, none⟩ = some u) → CsAt w (encS l) b o F
  | .nil, _, _, _, _, h, _ => h.2
  | .cons op x y n t el r, _, _, b, o, ⟨vt, ve, xt, xe, Gt, Ge, Fr, xr, h1, h2, ⟨h3, h4⟩, ⟨h5, h6⟩, h7⟩, hc => by
    subst h1; subst h2
    have nil_of : ∀ (l : Ss) xs G, StkS e w l xs G → l.len = 0 → G = [] := fun l xs G h h0 => by
      have := Ss.len_zero h0
      subst this
      exact h.2
    refine ⟨by simpa using hc 0 _ rfl, by simpa using hc 1 _ rfl, by simpa using hc 2 _ rfl, by simpa using hc 3 _ rfl, vt, _, _, rfl, by simpa using hc 4 _ rfl, ?_, ve, _, _, rfl, by simpa using hc 5 _ rfl, ?_, cs_of_stkS r xr Fr b (o + 1 + 1 + 1 + 1 + 1 + 1) h7 fun j u hj => ?_⟩
    · exact sl_of_row h3 (nil_of _ _ _ h4) fun b hb => cs_of_stkS t xt Gt b 0 h4 hb
    · exact sl_of_row h5 (nil_of _ _ _ h6) fun b hb => cs_of_stkS el xe Ge b 0 h6 hb
    · rw [show o + 1 + 1 + 1 + 1 + 1 + 1 + j = o + (j + 6) from by omega]
      exact hc (j + 6) u (by simpa using hj)
theorem RowS.sts (h : RowS e w v l F) : StS w v l F := by
  obtain ⟨xs, Fs, h1, h2, rfl⟩ := h
  refine sl_of_row h1 (fun h0 => ?_) fun b hb => cs_of_stkS l xs Fs b 0 h2 hb
  have := Ss.len_zero h0
  subst this
  exact h2.2
theorem RowS.nil_ (e : TypeId) (w : World) : RowS e w (.slice none 0 0) .nil [] := ⟨[], [], ownsRow_base0 (World.ownsRow_nil w 0 _ _), ⟨rfl, rfl⟩, rfl⟩
end
/-- A row of statements in new memory. -/
def NewS (e : TypeId) (l : Ss) (w : World) (v : Value) (w' : World) : Prop := (∃ F, RowS e w' v l F ∧ F.Nodup ∧ ∀ b ∈ F, w.heap.size ≤ b) ∧ Ext w w'
/-- The same, and it can grow. -/
def GrowS (e : TypeId) (l : Ss) (w : World) (v : Value) (w' : World) : Prop :=
  (∃ xs Fs, w'.ownsRow w.heap.size e 6 v l.len xs ∧ StkS e w' l xs Fs ∧ (v.ownBlock.toList ++ Fs).Nodup ∧ ∀ b ∈ v.ownBlock.toList ++ Fs, w.heap.size ≤ b) ∧ Ext w w'
theorem GrowS.new {e : TypeId} {l : Ss} {w w' : World} {v : Value} (h : GrowS e l w v w') : NewS e l w v w' := by
  obtain ⟨⟨xs, Fs, h1, h2, h3, h4⟩, h5⟩ := h
  exact ⟨⟨_, ⟨xs, Fs, ownsRow_base0 h1, h2, rfl⟩, h3, h4⟩, h5⟩
theorem NewS.grow {e : TypeId} {l : Ss} {w w' : World} {v : Value} (h : NewS e l w v w') : GrowS e l w v w' := by
  obtain ⟨⟨F, ⟨xs, Fs, h1, h2, rfl⟩, h3, h4⟩, h5⟩ := h
  refine ⟨⟨xs, Fs, ?_, h2, h3, h4⟩, h5⟩
  obtain ⟨hl, h | ⟨g, cap, cur, rfl, hB, rest⟩⟩ := h1
  · exact ⟨hl, .inl h⟩
  · exact ⟨hl, .inr ⟨g, cap, cur, rfl, h4 g (by simp [Value.ownBlock]), rest⟩⟩
theorem NewS.ext {e : TypeId} {l : Ss} {w w' w'' : World} {v : Value} (h : NewS e l w v w') (he : Ext w' w'') : NewS e l w v w'' := by
  obtain ⟨⟨F, h1, h2, h3⟩, h4⟩ := h
  exact ⟨⟨F, h1.ext he, h2, h3⟩, h4.trans he⟩
theorem NewS.mono {e : TypeId} {l : Ss} {w0 w w' : World} {v : Value} (h : NewS e l w v w') (he : Ext w0 w) : NewS e l w0 v w' := by
  obtain ⟨⟨F, h1, h2, h3⟩, h4⟩ := h
  exact ⟨⟨F, h1, h2, fun b hb => Nat.le_trans he.size (h3 b hb)⟩, he.trans h4⟩
theorem NewS.nil_ (e : TypeId) {w w' : World} (he : Ext w w') : NewS e .nil w (.slice none 0 0) w' := ⟨⟨[], RowS.nil_ e w', by simp, by simp⟩, he⟩
theorem nodup_own (v : Value) : v.ownBlock.toList.Nodup := by cases v.ownBlock <;> simp
/-- One more statement is appended. -/
theorem GrowS.step {e : TypeId} {l t el : Ss} {op x y n : Int} {w w1 w2 : World} {v v' vt ve : Value} {Ft Fe : List Nat} {xs : List Value} {Fs : List Nat}
    (h1 : w1.ownsRow w.heap.size e 6 v l.len xs) (h2 : StkS e w1 l xs Fs) (h3 : (v.ownBlock.toList ++ Fs).Nodup) (h4 : ∀ b ∈ v.ownBlock.toList ++ Fs, w.heap.size ≤ b) (he : Ext w w1)
    (ht : RowS e w1 vt t Ft) (hel : RowS e w1 ve el Fe) (hnd : (Ft ++ Fe).Nodup) (hd : ∀ x ∈ Ft ++ Fe, x ∉ v.ownBlock.toList ++ Fs) (hB : ∀ x ∈ Ft ++ Fe, w.heap.size ≤ x)
    (k1 : w2.ownsRow w.heap.size e 6 v' (l.len + 1) (xs ++ [.int .i64 op, .int .i64 x, .int .i64 y, .int .i64 n, vt, ve])) (k2 : w1.grownBy w2 v.ownBlock) (k3 : v'.ownBlock = v.ownBlock ∨ ∃ b, v'.ownBlock = some b ∧ w1.heap.size ≤ b) : GrowS e (l.snoc op x y n t el) w v' w2 := by
  have hc := grown_chg k2
  have hdis : ∀ x ∈ Fs ++ (Ft ++ Fe), x ∉ v.ownBlock.toList := fun x hx hm => by
    rcases List.mem_append.1 hx with hx | hx
    · exact (List.nodup_append.1 h3).2.2 x hm x hx rfl
    · exact hd x hx (by simp [hm])
  have hlt : ∀ x ∈ Fs ++ (Ft ++ Fe), x < w1.heap.size := fun x hx => by
    rcases List.mem_append.1 hx with hx | hx
    · exact StkS.lt _ _ _ h2 x hx
    · rcases List.mem_append.1 hx with hx | hx
      · exact ht.lt x hx
      · exact hel.lt x hx
  have hnew : ∀ x ∈ v'.ownBlock.toList, x ∉ Fs ++ (Ft ++ Fe) := fun x hx hm => by
    rcases k3 with k3 | ⟨b, k3, hb⟩
    · rw [k3] at hx; exact hdis x hm hx
    · rw [k3] at hx; simp at hx; subst hx; have := hlt x hm; omega
  have hone := StkS.mk (op := op) (x := x) (y := y) (n := n) (ht.chg hc fun x hx => hdis x (by simp [hx])) (hel.chg hc fun x hx => hdis x (by simp [hx])) (r := .nil) (xr := []) (Fr := []) ⟨rfl, rfl⟩
  rw [List.append_nil] at hone
  refine ⟨⟨_, Fs ++ (Ft ++ Fe), by rw [Ss.len_snoc]; exact k1, StkS.append _ _ _ _ _ _ (StkS.chg hc _ _ _ h2 fun x hx => hdis x (by simp [hx])) hone, ?_, ?_⟩, ?_⟩
  · refine List.nodup_append.2 ⟨nodup_own _, List.nodup_append.2 ⟨(List.nodup_append.1 h3).2.1, hnd, fun a ha b hb e => hd b hb (by simp [← e, ha])⟩, fun a ha b hb e => hnew a ha (e ▸ hb)⟩
  · intro b hb
    rcases List.mem_append.1 hb with hb | hb
    · rcases k3 with k3 | ⟨b', k3, hb'⟩
      · exact h4 b (by rw [k3] at hb; simp [hb])
      · rw [k3] at hb; simp at hb; subst hb; have := he.size_le; omega
    · rcases List.mem_append.1 hb with hb | hb
      · exact h4 b (by simp [hb])
      · exact hB b hb
  · exact ext_grown he k2 fun b hb => h4 b (by simp [hb])
/-- A statement of a row is set: its numbers and its lists. -/
theorem RowS.upd {e : TypeId} {l r t el : Ss} {op x y n : Int} {w : World} {v : Value} {F : List Nat} (h : RowS e w v (l.app (.cons op x y n t el r)) F) :
    ∃ g cap cs vt ve F1 Ft Fe F2, v = .slice (some ⟨g, 0, none⟩) (l.app (.cons op x y n t el r)).len cap ∧ F = g :: (F1 ++ (Ft ++ (Fe ++ F2))) ∧ Blk w g cs e ∧ l.len * 6 + 6 ≤ cs.length ∧
    (∀ (j : Nat) u, [Value.int .i64 op, .int .i64 x, .int .i64 y, .int .i64 n, vt, ve][j]? = some u → cs[l.len * 6 + j]? = some u) ∧ RowS e w vt t Ft ∧ RowS e w ve el Fe ∧
    ∀ w' cs' op' x' y' n' t' el' vt' ve' Ft' Fe' G, Blk w' g cs' e → cs'.length = cs.length → (∀ p, (p < l.len * 6 ∨ l.len * 6 + 6 ≤ p) → cs'[p]? = cs[p]?) →
      (∀ (j : Nat) u, [Value.int .i64 op', .int .i64 x', .int .i64 y', .int .i64 n', vt', ve'][j]? = some u → cs'[l.len * 6 + j]? = some u) →
      RowS e w' vt' t' Ft' → RowS e w' ve' el' Fe' → Chg G w w' → (∀ x ∈ F1 ++ F2, x ∉ G) → RowS e w' v (l.app (.cons op' x' y' n' t' el' r)) (g :: (F1 ++ (Ft' ++ (Fe' ++ F2)))) := by
  obtain ⟨xs, Fs, h1, h2, rfl⟩ := h
  obtain ⟨xs1, xs2, F1, F2', rfl, rfl, a1, a2⟩ := StkS.split l _ xs Fs h2
  obtain ⟨vt, ve, Ft, Fe, F2, xr, rfl, rfl, b1, b2, b3⟩ := a2.cons_
  have hl1 := StkS.length _ _ _ a1
  have hlen : (l.app (.cons op x y n t el r)).len = l.len + 1 + r.len := by simp [Ss.len_app, Ss.len]; omega
  obtain ⟨g, cap, cs, rfl, hb, hle, hxs, hup⟩ := ownsRow_upd h1 (by omega)
  refine ⟨g, cap, cs, vt, ve, F1, Ft, Fe, F2, rfl, rfl, hb, by omega, fun j u hu => ?_, b1, b2, fun w' cs' op' x' y' n' t' el' vt' ve' Ft' Fe' G hb' hl' ho hin hr1 hr2 hc hG => ?_⟩
  · have hj : j < 6 := (List.getElem?_eq_some_iff.1 hu).1
    have e1 : (cs.take ((l.app (.cons op x y n t el r)).len * 6))[l.len * 6 + j]? = cs[l.len * 6 + j]? := by rw [List.getElem?_take, if_pos (by omega)]
    rw [← e1, ← hxs, List.getElem?_append_right (by omega), hl1, show l.len * 6 + j - l.len * 6 = j from by omega, ← hu]
    match j, hj with
    | 0, _ => rfl
    | 1, _ => rfl
    | 2, _ => rfl
    | 3, _ => rfl
    | 4, _ => rfl
    | 5, _ => rfl
  · have hl3 := StkS.length _ _ _ b3
    have hlen' : (l.app (.cons op' x' y' n' t' el' r)).len = (l.app (.cons op x y n t el r)).len := by simp [Ss.len_app, Ss.len]
    have hcs : cs'.take ((l.app (.cons op x y n t el r)).len * 6) = xs1 ++ (.int .i64 op' :: .int .i64 x' :: .int .i64 y' :: .int .i64 n' :: vt' :: ve' :: xr) := by
      apply List.ext_getElem?
      intro p
      have hx := congrArg (fun z => z[p]?) hxs
      by_cases hp : p < (l.app (.cons op x y n t el r)).len * 6
      · rw [List.getElem?_take, if_pos hp]
        rw [List.getElem?_take, if_pos hp] at hx
        by_cases hp1 : p < l.len * 6
        · rw [ho p (.inl hp1), ← hx, List.getElem?_append_left (by omega), List.getElem?_append_left (by omega)]
        · rw [List.getElem?_append_right (by omega), hl1] at hx ⊢
          by_cases hp2 : p < l.len * 6 + 6
          · obtain ⟨j, rfl⟩ : ∃ j, p = l.len * 6 + j := ⟨p - l.len * 6, by omega⟩
            have hj : j < 6 := by omega
            rw [show l.len * 6 + j - l.len * 6 = j from by omega]
            match j, hj with
            | 0, _ => exact hin 0 _ rfl
            | 1, _ => exact hin 1 _ rfl
            | 2, _ => exact hin 2 _ rfl
            | 3, _ => exact hin 3 _ rfl
            | 4, _ => exact hin 4 _ rfl
            | 5, _ => exact hin 5 _ rfl
          · rw [ho p (.inr (by omega)), ← hx]
            obtain ⟨q, hq⟩ : ∃ q, p - l.len * 6 = q + 6 := ⟨p - l.len * 6 - 6, by omega⟩
            rw [hq]
            rfl
      · rw [List.getElem?_eq_none (by simp; omega), List.getElem?_eq_none]
        simp only [List.length_append, List.length_cons, hl3, hl1]
        omega
    refine ⟨_, F1 ++ (Ft' ++ (Fe' ++ F2)), by rw [hlen']; exact hcs ▸ hup w' cs' hb' hl', StkS.append _ _ _ _ _ _ (StkS.chg hc _ _ _ a1 fun x hx => hG x (by simp [hx])) (StkS.mk hr1 hr2 (StkS.chg hc _ _ _ b3 fun x hx => hG x (by simp [hx]))), rfl⟩
end Go.Proofs.YtplcmbipeanjdaaGreatDoor
namespace Go.Proofs.YtplcmbipeanjdaaGreatDoor
set_option linter.unusedVariables false
set_option linter.unusedSimpArgs false
set_option linter.unnecessarySimpa false
open Go.RowKit

/-- What is left of a list of statements, in memory. -/
def RestS (w : World) (A : Option Addr) (i : Nat) (r : Ss) : Prop := r = .nil ∨ ∃ b o F', A = some ⟨b, o, none⟩ ∧ CsAt w (encS r) b (o + i * 6) F'
theorem restS_start {w : World} {A : Option Addr} {m c : Nat} {l : Ss} {F : List Nat} (h : StS w (.slice A m c) l F) : RestS w A 0 l := by
  rcases stS_at h with h | ⟨b, o, F', hA, hs, _⟩
  · exact .inl h
  · exact .inr ⟨b, o, F', hA, by simpa using hs⟩
theorem restS_cons {w : World} {A : Option Addr} {i : Nat} {op x y n : Int} {t e r : Ss} (h : RestS w A i (.cons op x y n t e r)) : ∃ b o vt ve Ft Fe, A = some ⟨b, o, none⟩ ∧
    (∀ (j : Nat) u, [Value.int .i64 op, .int .i64 x, .int .i64 y, .int .i64 n, vt, ve][j]? = some u → w.cell? ⟨b, o + i * 6 + j, none⟩ = some u) ∧ StS w vt t Ft ∧ StS w ve e Fe ∧ RestS w A (i + 1) r := by
  rcases h with h | ⟨b, o, F', rfl, hs⟩
  · cases h
  · obtain ⟨vt, ve, Ft, Fe, Fr, _, hc, ht, he, hr⟩ := csAt_stmt hs
    exact ⟨b, o, vt, ve, Ft, Fe, rfl, hc, ht, he, .inr ⟨b, o, Fr, rfl, by rw [show o + (i + 1) * 6 = o + i * 6 + 6 from by omega]; exact hr⟩⟩
/-- A program by value. -/
def prV (tv bv : Value) : Value := .agg #[tv, bv]
/-! ### Equality -/
end Go.Proofs.YtplcmbipeanjdaaGreatDoor
namespace Go.Proofs.YtplcmbipeanjdaaGreatDoor
set_option linter.unusedVariables false
set_option linter.unusedSimpArgs false
set_option linter.unnecessarySimpa false
open Go.RowKit

abbrev Tx := List UInt8
def wIf : Tx := [105, 102, 123]
def wLoop : Tx := [108, 111, 111, 112, 123]
def wDrop : Tx := [100, 114, 111, 112, 32]
def wBox : Tx := [98, 111, 120, 32]
def wMut : Tx := [38, 109, 117, 116, 32]
def wMid : Tx := [125, 123]
def chv (v : Int) : UInt8 := UInt8.ofNat (97 + v.toNat)
def dgv (v : Int) : UInt8 := UInt8.ofNat (48 + v.toNat)
/-- The text of a statement without statements in it. -/
def simT (op x y n : Int) : Tx :=
  if op = 1 then [chv x, 61, dgv n]
  else if op = 2 then [chv x, 61] ++ (wBox ++ [dgv n])
  else if op = 3 then [chv x, 61, chv y]
  else if op = 4 then [chv x, 61, 38, chv y]
  else if op = 5 then [chv x, 61] ++ (wMut ++ [chv y])
  else if op = 6 then [chv x, 61, 42, chv y]
  else if op = 7 then [42, chv x, 61, chv y]
  else wDrop ++ [chv x]
def itT (op x y n : Int) (T E : Tx) : Tx :=
  if op = 9 then wIf ++ (T ++ (wMid ++ (E ++ [125]))) else if op = 10 then wLoop ++ (T ++ [125]) else simT op x y n
/-- The text of statements. -/
def lsT : Ss → Tx
  | .nil => []
  | .cons op x y n t e r => itT op x y n (lsT t) (lsT e) ++ (if r.len = 0 then [] else 59 :: lsT r)
/-! ### The program's reader -/
abbrev RSt := Tx × Bool
abbrev One := Int × Int × Int × Int × Ss × Ss
def consO (a : One) (r : Ss) : Ss := .cons a.1 a.2.1 a.2.2.1 a.2.2.2.1 a.2.2.2.2.1 a.2.2.2.2.2 r
def hasF (p : Tx) (st : RSt) : Bool × RSt := if p.isPrefixOf st.1 then (true, (st.1.drop p.length, st.2)) else (false, st)
def skipF (p : Tx) (st : RSt) : RSt := ((hasF p st).2.1, !(hasF p st).1 || st.2)
def fromF (first many : Nat) (st : RSt) : Int × RSt :=
  match st.1 with
  | [] => (0, ([], true))
  | b :: r => if b.toNat < first ∨ many ≤ b.toNat - first then (0, (b :: r, true)) else (((b.toNat - first : Nat) : Int), (r, st.2))
def varF : RSt → Int × RSt := fromF 97 6
def numbF : RSt → Int × RSt := fromF 48 10
def isDig (s : Tx) : Bool := match s with
  | [] => false
  | b :: _ => decide (48 ≤ b.toNat ∧ b.toNat ≤ 57)
def isEnd (s : Tx) : Bool := match s with
  | [] => true
  | b :: _ => b == 125
def stmtF (f : RSt → Ss × RSt) (st : RSt) : One × RSt :=
  if (hasF wIf st).1 then
    ((9, 0, 0, 0, (f (hasF wIf st).2).1, (f (skipF wMid (f (hasF wIf st).2).2)).1), skipF [125] (f (skipF wMid (f (hasF wIf st).2).2)).2)
  else if (hasF wLoop st).1 then ((10, 0, 0, 0, (f (hasF wLoop st).2).1, .nil), skipF [125] (f (hasF wLoop st).2).2)
  else if (hasF wDrop st).1 then ((8, (varF (hasF wDrop st).2).1, 0, 0, .nil, .nil), (varF (hasF wDrop st).2).2)
  else if (hasF [42] st).1 then
    ((7, (varF (hasF [42] st).2).1, (varF (skipF [61] (varF (hasF [42] st).2).2)).1, 0, .nil, .nil), (varF (skipF [61] (varF (hasF [42] st).2).2)).2)
  else
    let v := varF st
    let s := skipF [61] v.2
    if (hasF wBox s).1 then ((2, v.1, 0, (numbF (hasF wBox s).2).1, .nil, .nil), (numbF (hasF wBox s).2).2)
    else if (hasF wMut s).1 then ((5, v.1, (varF (hasF wMut s).2).1, 0, .nil, .nil), (varF (hasF wMut s).2).2)
    else if (hasF [38] s).1 then ((4, v.1, (varF (hasF [38] s).2).1, 0, .nil, .nil), (varF (hasF [38] s).2).2)
    else if (hasF [42] s).1 then ((6, v.1, (varF (hasF [42] s).2).1, 0, .nil, .nil), (varF (hasF [42] s).2).2)
    else if isDig s.1 then ((1, v.1, 0, (numbF s).1, .nil, .nil), (numbF s).2)
    else ((3, v.1, (varF s).1, 0, .nil, .nil), (varF s).2)
def loopF (g : RSt → One × RSt) : Nat → RSt → Ss × RSt
  | 0, st => (.nil, st)
  | k + 1, st => if st.2 = false ∧ (hasF [59] st).1 = true then (consO (g (hasF [59] st).2).1 (loopF g k (g (hasF [59] st).2).2).1, (loopF g k (g (hasF [59] st).2).2).2) else (.nil, st)
def stmtsF : Nat → RSt → Ss × RSt
  | 0, st => (.nil, (st.1, true))
  | d + 1, st => if st.2 = true ∨ isEnd st.1 = true then (.nil, st) else
      (consO (stmtF (stmtsF d) st).1 (loopF (stmtF (stmtsF d)) (stmtF (stmtsF d) st).2.1.length (stmtF (stmtsF d) st).2).1, (loopF (stmtF (stmtsF d)) (stmtF (stmtsF d) st).2.1.length (stmtF (stmtsF d) st).2).2)
/-! ### Reading goes on -/
theorem hasF_len (p : Tx) (st : RSt) : (hasF p st).2.1.length ≤ st.1.length := by
  unfold hasF
  split
  · simp
  · exact Nat.le_refl _
theorem hasF_lt {p : Tx} {st : RSt} (h : (hasF p st).1 = true) (hp : 0 < p.length) : (hasF p st).2.1.length < st.1.length := by
  unfold hasF at h ⊢
  split at h
  · rename_i hq
    rw [if_pos hq]
    have := (List.isPrefixOf_iff_prefix.1 hq).length_le
    simp
    omega
  · cases h
theorem skipF_len (p : Tx) (st : RSt) : (skipF p st).1.length ≤ st.1.length := hasF_len p st
theorem fromF_len (a b : Nat) (st : RSt) : (fromF a b st).2.1.length ≤ st.1.length := by
  unfold fromF
  split
  · simp
  · rename_i c r hs
    rw [hs]
    split
    · exact Nat.le_refl _
    · simp
theorem stmtF_len {f : RSt → Ss × RSt} (hf : ∀ st, (f st).2.1.length ≤ st.1.length) (st : RSt) : (stmtF f st).2.1.length ≤ st.1.length := by
  have h1 := hasF_len wIf st
  have h2 := hasF_len wLoop st
  have h3 := hasF_len wDrop st
  have h4 := hasF_len [42] st
  have hv : ∀ s, (varF s).2.1.length ≤ s.1.length := fromF_len 97 6
  have hn : ∀ s, (numbF s).2.1.length ≤ s.1.length := fromF_len 48 10
  unfold stmtF
  split
  · exact Nat.le_trans (skipF_len _ _) (Nat.le_trans (hf _) (Nat.le_trans (skipF_len _ _) (Nat.le_trans (hf _) h1)))
  · split
    · exact Nat.le_trans (skipF_len _ _) (Nat.le_trans (hf _) h2)
    · split
      · exact Nat.le_trans (hv _) h3
      · split
        · exact Nat.le_trans (hv _) (Nat.le_trans (skipF_len _ _) (Nat.le_trans (hv _) h4))
        · have hs : (skipF [61] (varF st).2).1.length ≤ st.1.length := Nat.le_trans (skipF_len _ _) (hv _)
          simp only
          split
          · exact Nat.le_trans (hn _) (Nat.le_trans (hasF_len _ _) hs)
          · split
            · exact Nat.le_trans (hv _) (Nat.le_trans (hasF_len _ _) hs)
            · split
              · exact Nat.le_trans (hv _) (Nat.le_trans (hasF_len _ _) hs)
              · split
                · exact Nat.le_trans (hv _) (Nat.le_trans (hasF_len _ _) hs)
                · split
                  · exact Nat.le_trans (hn _) hs
                  · exact Nat.le_trans (hv _) hs
theorem loopF_len {g : RSt → One × RSt} (hg : ∀ st, (g st).2.1.length ≤ st.1.length) : ∀ (k : Nat) (st : RSt), (loopF g k st).2.1.length ≤ st.1.length
  | 0, _ => Nat.le_refl _
  | k + 1, st => by
    unfold loopF
    split
    · exact Nat.le_trans (loopF_len hg k _) (Nat.le_trans (hg _) (hasF_len _ _))
    · exact Nat.le_refl _
theorem stmtsF_len : ∀ (d : Nat) (st : RSt), (stmtsF d st).2.1.length ≤ st.1.length
  | 0, _ => Nat.le_refl _
  | d + 1, st => by
    unfold stmtsF
    split
    · exact Nat.le_refl _
    · exact Nat.le_trans (loopF_len (stmtF_len (stmtsF_len d)) _ _) (stmtF_len (stmtsF_len d) _)
/-- More rounds than bytes change nothing. -/
theorem loopF_more {g : RSt → One × RSt} (hg : ∀ st, (g st).2.1.length ≤ st.1.length) : ∀ (k : Nat) (st : RSt), st.1.length ≤ k → loopF g (k + 1) st = loopF g k st
  | 0, st, h => by
    have h0 : st.1 = [] := List.eq_nil_of_length_eq_zero (by omega)
    unfold loopF
    rw [if_neg]
    rintro ⟨_, h1⟩
    have := hasF_lt h1 (by decide)
    omega
  | k + 1, st, h => by
    rw [loopF]
    conv => rhs; rw [loopF]
    split
    · rename_i hc
      have h1 := hasF_lt hc.2 (by decide)
      have h2 := hg (hasF [59] st).2
      rw [loopF_more hg k _ (by omega)]
    · rfl
theorem loopF_fuel {g : RSt → One × RSt} (hg : ∀ st, (g st).2.1.length ≤ st.1.length) {k : Nat} {st : RSt} (h : st.1.length ≤ k) : loopF g k st = loopF g st.1.length st := by
  obtain ⟨j, rfl⟩ : ∃ j, k = st.1.length + j := ⟨k - st.1.length, by omega⟩
  induction j with
  | zero => rfl
  | succ j ih => rw [← Nat.add_assoc, loopF_more hg _ _ (by omega), ih (by omega)]
/-! ### A valid program is read back -/
theorem var_cases {x : Int} (h : 0 ≤ x ∧ x < 6) : x = 0 ∨ x = 1 ∨ x = 2 ∨ x = 3 ∨ x = 4 ∨ x = 5 := by omega
theorem chv_nat {x : Int} (h : 0 ≤ x ∧ x < 6) : (chv x).toNat = 97 + x.toNat := by
  rcases var_cases h with rfl | rfl | rfl | rfl | rfl | rfl <;> rfl
theorem dgv_nat {n : Int} (h : 0 ≤ n ∧ n ≤ 9) : (dgv n).toNat = 48 + n.toNat := by
  have : n = 0 ∨ n = 1 ∨ n = 2 ∨ n = 3 ∨ n = 4 ∨ n = 5 ∨ n = 6 ∨ n = 7 ∨ n = 8 ∨ n = 9 := by omega
  rcases this with rfl | rfl | rfl | rfl | rfl | rfl | rfl | rfl | rfl | rfl <;> rfl
theorem varF_chv {x : Int} (h : 0 ≤ x ∧ x < 6) (s : Tx) (b : Bool) : varF (chv x :: s, b) = (x, (s, b)) := by
  unfold varF fromF
  simp only [chv_nat h]
  rw [if_neg (by omega)]
  congr 1
  omega
theorem numbF_dgv {n : Int} (h : 0 ≤ n ∧ n ≤ 9) (s : Tx) (b : Bool) : numbF (dgv n :: s, b) = (n, (s, b)) := by
  unfold numbF fromF
  simp only [dgv_nat h]
  rw [if_neg (by omega)]
  congr 1
  omega
theorem hasF_yes (p s : Tx) (b : Bool) : hasF p (p ++ s, b) = (true, (s, b)) := by
  unfold hasF
  rw [if_pos (List.isPrefixOf_iff_prefix.2 (List.prefix_append p s))]
  simp
theorem skipF_yes (p s : Tx) (b : Bool) : skipF p (p ++ s, b) = (s, b) := by
  unfold skipF
  rw [hasF_yes]
  simp
theorem hasF_no {p : Tx} {st : RSt} (h : p.isPrefixOf st.1 = false) : hasF p st = (false, st) := by
  unfold hasF
  rw [if_neg (by rw [h]; simp)]
/-- What may stand behind a statement. -/
def After (s : Tx) : Prop := s = [] ∨ ∃ r, s = 59 :: r ∨ s = 125 :: r
theorem simple_read (f : RSt → Ss × RSt) {op x y n : Int} {s : Tx} (hop : 1 ≤ op ∧ op ≤ 8) (hx : 0 ≤ x ∧ x < 6) (hy : (op = 1 ∨ op = 2 ∨ op = 8) ∧ y = 0 ∨ (3 ≤ op ∧ op ≤ 7) ∧ 0 ≤ y ∧ y < 6) (hn : (op = 1 ∨ op = 2) ∧ 0 ≤ n ∧ n ≤ 9 ∨ 3 ≤ op ∧ n = 0) (hs : After s) :
    stmtF f (simT op x y n ++ s, false) = ((op, x, y, n, .nil, .nil), (s, false)) := by
  have h0 : ∀ (p : Tx) (c : UInt8) (q : Tx), (p = wIf ∨ p = wLoop ∨ p = [42]) → hasF p (chv x :: q, false) = (false, (chv x :: q, false)) := fun p c q hp => by
    refine hasF_no ?_
    rcases var_cases hx with rfl | rfl | rfl | rfl | rfl | rfl <;> rcases hp with rfl | rfl | rfl <;> rfl
  have h1 : ∀ q : Tx, hasF wDrop (chv x :: 61 :: q, false) = (false, (chv x :: 61 :: q, false)) := fun q => by
    refine hasF_no ?_
    rcases var_cases hx with rfl | rfl | rfl | rfl | rfl | rfl <;> rfl
  have h2 : ∀ q : Tx, skipF [61] (61 :: q, false) = (q, false) := fun q => skipF_yes [61] q false
  have hop' : op = 1 ∨ op = 2 ∨ op = 3 ∨ op = 4 ∨ op = 5 ∨ op = 6 ∨ op = 7 ∨ op = 8 := by omega
  rcases hop' with rfl | rfl | rfl | rfl | rfl | rfl | rfl | rfl
  · -- number
    have hn' : 0 ≤ n ∧ n ≤ 9 := by omega
    have hy' : y = 0 := by omega
    have hd : dgv n ≠ 98 ∧ dgv n ≠ 38 ∧ dgv n ≠ 42 := by
      have := dgv_nat hn'
      refine ⟨?_, ?_, ?_⟩ <;> (intro he; rw [he] at this; simp at this; omega)
    have e1 : simT 1 x y n ++ s = chv x :: 61 :: dgv n :: s := rfl
    have k1 : hasF wBox (dgv n :: s, false) = (false, (dgv n :: s, false)) := hasF_no (by simp [wBox, List.isPrefixOf, hd.1.symm])
    have k2 : hasF wMut (dgv n :: s, false) = (false, (dgv n :: s, false)) := hasF_no (by simp [wMut, List.isPrefixOf, hd.2.1.symm])
    have k3 : hasF [38] (dgv n :: s, false) = (false, (dgv n :: s, false)) := hasF_no (by simp [List.isPrefixOf, hd.2.1.symm])
    have k4 : hasF [42] (dgv n :: s, false) = (false, (dgv n :: s, false)) := hasF_no (by simp [List.isPrefixOf, hd.2.2.symm])
    have k5 : isDig (dgv n :: s) = true := by
      show decide (48 ≤ (dgv n).toNat ∧ (dgv n).toNat ≤ 57) = true
      rw [dgv_nat hn']
      simp
      omega
    rw [e1]
    unfold stmtF
    rw [h0 wIf 0 _ (.inl rfl), h0 wLoop 0 _ (.inr (.inl rfl)), h1, h0 [42] 0 _ (.inr (.inr rfl))]
    simp only [Bool.false_eq_true, if_false, varF_chv hx, h2, k1, k2, k3, k4, k5, if_true, numbF_dgv hn', hy']
  · have hn' : 0 ≤ n ∧ n ≤ 9 := by omega
    have hy' : y = 0 := by omega
    have e1 : simT 2 x y n ++ s = chv x :: 61 :: (wBox ++ (dgv n :: s)) := rfl
    rw [e1]
    unfold stmtF
    rw [h0 wIf 0 _ (.inl rfl), h0 wLoop 0 _ (.inr (.inl rfl)), h1, h0 [42] 0 _ (.inr (.inr rfl))]
    simp only [Bool.false_eq_true, if_false, varF_chv hx, h2, hasF_yes, if_true, numbF_dgv hn', hy']
  · have hn' : n = 0 := by omega
    have hy' : 0 ≤ y ∧ y < 6 := by omega
    have e1 : simT 3 x y n ++ s = chv x :: 61 :: chv y :: s := rfl
    have k1 : hasF wBox (chv y :: s, false) = (false, (chv y :: s, false)) := hasF_no (by
      rcases hs with rfl | ⟨r, rfl | rfl⟩ <;> rcases var_cases hy' with rfl | rfl | rfl | rfl | rfl | rfl <;> rfl)
    have k2 : hasF wMut (chv y :: s, false) = (false, (chv y :: s, false)) := hasF_no (by rcases var_cases hy' with rfl | rfl | rfl | rfl | rfl | rfl <;> rfl)
    have k3 : hasF [38] (chv y :: s, false) = (false, (chv y :: s, false)) := hasF_no (by rcases var_cases hy' with rfl | rfl | rfl | rfl | rfl | rfl <;> rfl)
    have k4 : hasF [42] (chv y :: s, false) = (false, (chv y :: s, false)) := hasF_no (by rcases var_cases hy' with rfl | rfl | rfl | rfl | rfl | rfl <;> rfl)
    have k5 : isDig (chv y :: s) = false := by rcases var_cases hy' with rfl | rfl | rfl | rfl | rfl | rfl <;> rfl
    rw [e1]
    unfold stmtF
    rw [h0 wIf 0 _ (.inl rfl), h0 wLoop 0 _ (.inr (.inl rfl)), h1, h0 [42] 0 _ (.inr (.inr rfl))]
    simp only [Bool.false_eq_true, if_false, varF_chv hx, h2, k1, k2, k3, k4, k5, varF_chv hy', hn']
  · have hn' : n = 0 := by omega
    have hy' : 0 ≤ y ∧ y < 6 := by omega
    have e1 : simT 4 x y n ++ s = chv x :: 61 :: ([38] ++ (chv y :: s)) := rfl
    have k1 : hasF wBox ([38] ++ (chv y :: s), false) = (false, ([38] ++ (chv y :: s), false)) := hasF_no rfl
    have k2 : hasF wMut ([38] ++ (chv y :: s), false) = (false, ([38] ++ (chv y :: s), false)) := hasF_no (by rcases var_cases hy' with rfl | rfl | rfl | rfl | rfl | rfl <;> rfl)
    rw [e1]
    unfold stmtF
    rw [h0 wIf 0 _ (.inl rfl), h0 wLoop 0 _ (.inr (.inl rfl)), h1, h0 [42] 0 _ (.inr (.inr rfl))]
    simp only [Bool.false_eq_true, if_false, varF_chv hx, h2, k1, k2, hasF_yes, if_true, varF_chv hy', hn']
  · have hn' : n = 0 := by omega
    have hy' : 0 ≤ y ∧ y < 6 := by omega
    have e1 : simT 5 x y n ++ s = chv x :: 61 :: (wMut ++ (chv y :: s)) := rfl
    have k1 : hasF wBox (wMut ++ (chv y :: s), false) = (false, (wMut ++ (chv y :: s), false)) := hasF_no rfl
    rw [e1]
    unfold stmtF
    rw [h0 wIf 0 _ (.inl rfl), h0 wLoop 0 _ (.inr (.inl rfl)), h1, h0 [42] 0 _ (.inr (.inr rfl))]
    simp only [Bool.false_eq_true, if_false, varF_chv hx, h2, k1, hasF_yes, if_true, varF_chv hy', hn']
  · have hn' : n = 0 := by omega
    have hy' : 0 ≤ y ∧ y < 6 := by omega
    have e1 : simT 6 x y n ++ s = chv x :: 61 :: ([42] ++ (chv y :: s)) := rfl
    have k1 : hasF wBox ([42] ++ (chv y :: s), false) = (false, ([42] ++ (chv y :: s), false)) := hasF_no rfl
    have k2 : hasF wMut ([42] ++ (chv y :: s), false) = (false, ([42] ++ (chv y :: s), false)) := hasF_no rfl
    have k3 : hasF [38] ([42] ++ (chv y :: s), false) = (false, ([42] ++ (chv y :: s), false)) := hasF_no rfl
    rw [e1]
    unfold stmtF
    rw [h0 wIf 0 _ (.inl rfl), h0 wLoop 0 _ (.inr (.inl rfl)), h1, h0 [42] 0 _ (.inr (.inr rfl))]
    simp only [Bool.false_eq_true, if_false, varF_chv hx, h2, k1, k2, k3, hasF_yes, if_true, varF_chv hy', hn']
  · have hn' : n = 0 := by omega
    have hy' : 0 ≤ y ∧ y < 6 := by omega
    have e1 : simT 7 x y n ++ s = [42] ++ (chv x :: 61 :: chv y :: s) := rfl
    have k1 : hasF wIf ([42] ++ (chv x :: 61 :: chv y :: s), false) = (false, ([42] ++ (chv x :: 61 :: chv y :: s), false)) := hasF_no rfl
    have k2 : hasF wLoop ([42] ++ (chv x :: 61 :: chv y :: s), false) = (false, ([42] ++ (chv x :: 61 :: chv y :: s), false)) := hasF_no rfl
    have k3 : hasF wDrop ([42] ++ (chv x :: 61 :: chv y :: s), false) = (false, ([42] ++ (chv x :: 61 :: chv y :: s), false)) := hasF_no rfl
    rw [e1]
    unfold stmtF
    simp only [k1, k2, k3, Bool.false_eq_true, if_false, hasF_yes, if_true, varF_chv hx, h2, varF_chv hy', hn']
  · have hn' : n = 0 := by omega
    have hy' : y = 0 := by omega
    have e1 : simT 8 x y n ++ s = wDrop ++ (chv x :: s) := rfl
    have k1 : hasF wIf (wDrop ++ (chv x :: s), false) = (false, (wDrop ++ (chv x :: s), false)) := hasF_no rfl
    have k2 : hasF wLoop (wDrop ++ (chv x :: s), false) = (false, (wDrop ++ (chv x :: s), false)) := hasF_no rfl
    rw [e1]
    unfold stmtF
    simp only [k1, k2, Bool.false_eq_true, if_false, hasF_yes, if_true, varF_chv hx, hn', hy']
/-- What a valid statement without statements in it is made of. -/
theorem simple_form {tl : List Int} {op x y n : Int} {a b : Nat} (h : SimpleP tl op x y n a b) (hl : tl.length ≤ 6) : (1 ≤ op ∧ op ≤ 8) ∧ (0 ≤ x ∧ x < 6) ∧ ((op = 1 ∨ op = 2 ∨ op = 8) ∧ y = 0 ∨ (3 ≤ op ∧ op ≤ 7) ∧ 0 ≤ y ∧ y < 6) ∧ ((op = 1 ∨ op = 2) ∧ 0 ≤ n ∧ n ≤ 9 ∨ 3 ≤ op ∧ n = 0) ∧ a = 0 ∧ b = 0 := by
  have ht : ∀ v : Int, typeOfL tl v ≠ 0 → 0 ≤ v ∧ v < 6 := fun v hv => by
    by_cases h1 : 0 ≤ v ∧ v < tl.length
    · omega
    · exfalso
      apply hv
      unfold typeOfL
      first
        | rw [if_neg h1]
        | simp [h1]
  unfold SimpleP at h
  obtain ⟨h1, h2, h3, h4, h5⟩ := h
  have hx := ht x
  have hy := ht y
  refine ⟨?_, ?_, ?_, ?_, h3, h4⟩
  · rcases h5 with h | h | h | h | h | h | h <;> omega
  · apply hx; rcases h5 with h | h | h | h | h | h | h <;> omega
  · rcases h5 with h | h | h | h | h | h | h
    · exact .inl (by omega)
    · exact .inl (by omega)
    all_goals exact .inr ⟨by omega, hy (by omega)⟩
  · rcases h1 with h | h
    · exact .inl h
    · refine .inr ⟨?_, h.2.2⟩
      rcases h5 with h' | h' | h' | h' | h' | h' | h' <;> omega
def Ends (s : Tx) : Prop := s = [] ∨ ∃ r, s = 125 :: r
theorem Ends.isEnd {s : Tx} (h : Ends s) : isEnd s = true := by rcases h with rfl | ⟨r, rfl⟩ <;> rfl
theorem itT_head {tl : List Int} {d : Nat} {op x y n : Int} {t e : Ss} (h : okS tl d op x y n t e = true) (hl : tl.length ≤ 6) (s : Tx) : isEnd (itT op x y n (lsT t) (lsT e) ++ s) = false := by
  unfold okS at h
  unfold itT
  by_cases h9 : op = 9
  · rw [if_pos h9]; rfl
  · by_cases h10 : op = 10
    · rw [if_neg h9, if_pos h10]; rfl
    · rw [if_neg (by omega), decide_eq_true_eq] at h
      obtain ⟨h1, h2, _⟩ := simple_form h hl
      rw [if_neg h9, if_neg h10]
      have hop' : op = 1 ∨ op = 2 ∨ op = 3 ∨ op = 4 ∨ op = 5 ∨ op = 6 ∨ op = 7 ∨ op = 8 := by omega
      rcases hop' with rfl | rfl | rfl | rfl | rfl | rfl | rfl | rfl <;> first | rfl | (rcases var_cases h2 with rfl | rfl | rfl | rfl | rfl | rfl <;> rfl)
theorem lsT_len : ∀ l : Ss, l.len ≤ (lsT l).length + 1
  | .nil => by simp [Ss.len]
  | .cons op x y n t e r => by
    have := lsT_len r
    simp only [Ss.len, lsT, List.length_append]
    split
    · omega
    · simp only [List.length_cons]; omega
def ReadP (l : Ss) : Prop := ∀ (d : Nat) (tl : List Int) (s : Tx), okL tl d l = true → tl.length ≤ 6 → Ends s →
  stmtsF (d + 1) (lsT l ++ s, false) = (l, (s, false)) ∧ (l.len ≠ 0 → ∀ k, l.len ≤ k → loopF (stmtF (stmtsF d)) k (59 :: (lsT l ++ s), false) = (l, (s, false)))
theorem read_all (l : Ss) : ReadP l := Ss.strong (fun l ih => by
  intro d tl s hok hl hs
  cases l with
  | nil =>
    refine ⟨?_, fun h => absurd rfl h⟩
    show stmtsF (d + 1) (s, false) = _
    unfold stmtsF
    rw [if_pos (.inr hs.isEnd)]
  | cons op x y n t e r =>
    rw [okL_cons, Bool.and_eq_true] at hok
    obtain ⟨hS, hR⟩ := hok
    have hcr : cntL r < cntL (.cons op x y n t e r) := by simp only [cntL]; omega
    have hct : cntL t < cntL (.cons op x y n t e r) := by simp only [cntL]; omega
    have hce : cntL e < cntL (.cons op x y n t e r) := by simp only [cntL]; omega
    -- the statement itself
    have item : ∀ s1, After s1 → stmtF (stmtsF d) (itT op x y n (lsT t) (lsT e) ++ s1, false) = ((op, x, y, n, t, e), (s1, false)) := by
      intro s1 hs1
      have hS' := hS
      unfold okS at hS'
      by_cases h9 : op = 9 ∨ op = 10
      · rw [if_pos h9, Bool.and_eq_true, Bool.and_eq_true, decide_eq_true_eq] at hS'
        obtain ⟨⟨⟨hd, hx, hy, hn, he⟩, hT⟩, hE⟩ := hS'
        obtain ⟨d', rfl⟩ : ∃ d', d = d' + 1 := ⟨d - 1, by omega⟩
        rw [Nat.add_sub_cancel] at hT hE
        subst hx; subst hy; subst hn
        rcases h9 with rfl | rfl
        · have e1 : itT 9 0 0 0 (lsT t) (lsT e) ++ s1 = wIf ++ (lsT t ++ (wMid ++ (lsT e ++ (125 :: s1)))) := by simp [itT]
          have q1 := (ih t hct d' tl (wMid ++ (lsT e ++ (125 :: s1))) hT hl (.inr ⟨_, rfl⟩)).1
          have q2 := (ih e hce d' tl (125 :: s1) hE hl (.inr ⟨_, rfl⟩)).1
          have q3 : skipF [125] (125 :: s1, false) = (s1, false) := skipF_yes [125] s1 false
          rw [e1]
          unfold stmtF
          simp only [hasF_yes, if_true, q1, skipF_yes, q2, q3]
        · have he0 : e = .nil := Ss.len_zero (by omega)
          subst he0
          have e1 : itT 10 0 0 0 (lsT t) (lsT .nil) ++ s1 = wLoop ++ (lsT t ++ (125 :: s1)) := by simp [itT]
          have q1 := (ih t hct d' tl (125 :: s1) hT hl (.inr ⟨_, rfl⟩)).1
          have q3 : skipF [125] (125 :: s1, false) = (s1, false) := skipF_yes [125] s1 false
          have q4 : hasF wIf (wLoop ++ (lsT t ++ (125 :: s1)), false) = (false, (wLoop ++ (lsT t ++ (125 :: s1)), false)) := hasF_no rfl
          rw [e1]
          unfold stmtF
          simp only [q4, Bool.false_eq_true, if_false, hasF_yes, if_true, q1, q3]
      · rw [if_neg h9, decide_eq_true_eq] at hS'
        obtain ⟨a1, a2, a3, a4, a5, a6⟩ := simple_form hS' hl
        have ht0 := Ss.len_zero a5
        have he0 := Ss.len_zero a6
        subst ht0; subst he0
        have e1 : itT op x y n (lsT .nil) (lsT .nil) = simT op x y n := by unfold itT; rw [if_neg (by omega), if_neg (by omega)]
        rw [e1]
        exact simple_read _ a1 a2 a3 a4 hs1
    -- what follows
    by_cases hr0 : r.len = 0
    · have hrn := Ss.len_zero hr0
      subst hrn
      have e1 : lsT (.cons op x y n t e .nil) ++ s = itT op x y n (lsT t) (lsT e) ++ s := by simp [lsT, Ss.len]
      have hit := item s (by rcases hs with rfl | ⟨q, rfl⟩; exact .inl rfl; exact .inr ⟨q, .inr rfl⟩)
      have hlo : ∀ k, loopF (stmtF (stmtsF d)) k (s, false) = (.nil, (s, false)) := by
        intro k
        cases k with
        | zero => rfl
        | succ k =>
          unfold loopF
          rw [if_neg]
          rintro ⟨_, h⟩
          rcases hs with rfl | ⟨q, rfl⟩ <;> simp [hasF, List.isPrefixOf] at h
      refine ⟨?_, fun _ k hk => ?_⟩
      · rw [e1]
        unfold stmtsF
        rw [if_neg (by rw [itT_head hS hl]; simp), hit]
        simp only [hlo]
        rfl
      · obtain ⟨k', rfl⟩ : ∃ k', k = k' + 1 := ⟨k - 1, by simp [Ss.len] at hk; omega⟩
        rw [e1]
        unfold loopF
        have h59 : hasF [59] (59 :: (itT op x y n (lsT t) (lsT e) ++ s), false) = (true, (itT op x y n (lsT t) (lsT e) ++ s, false)) := hasF_yes [59] _ false
        rw [h59]
        rw [if_pos ⟨rfl, rfl⟩, hit]
        simp only [hlo]
        rfl
    · have e1 : lsT (.cons op x y n t e r) ++ s = itT op x y n (lsT t) (lsT e) ++ (59 :: (lsT r ++ s)) := by simp [lsT, hr0]
      have hit := item (59 :: (lsT r ++ s)) (.inr ⟨_, .inl rfl⟩)
      have hlo := (ih r hcr d tl s hR hl hs).2 hr0
      refine ⟨?_, fun _ k hk => ?_⟩
      · rw [e1]
        unfold stmtsF
        rw [if_neg (by rw [itT_head hS hl]; simp), hit]
        simp only
        rw [hlo _ (by have := lsT_len r; simp; omega)]
        rfl
      · simp only [Ss.len] at hk
        obtain ⟨k', rfl⟩ : ∃ k', k = k' + 1 := ⟨k - 1, by omega⟩
        rw [e1]
        unfold loopF
        have h59 : hasF [59] (59 :: (itT op x y n (lsT t) (lsT e) ++ (59 :: (lsT r ++ s))), false) = (true, (itT op x y n (lsT t) (lsT e) ++ (59 :: (lsT r ++ s)), false)) := hasF_yes [59] _ false
        rw [h59]
        rw [if_pos ⟨rfl, rfl⟩, hit]
        simp only
        rw [hlo k' (by omega)]
        rfl) l
end Go.Proofs.YtplcmbipeanjdaaGreatDoor
namespace Go.Proofs.YtplcmbipeanjdaaGreatDoor
set_option linter.unusedVariables false
set_option linter.unusedSimpArgs false
set_option linter.unnecessarySimpa false
open Go.RowKit

/-- A string by its bytes. -/
abbrev sV (l : List UInt8) : Value := .string ⟨l.toArray⟩
theorem ba_list (l : List UInt8) : (⟨l.toArray⟩ : ByteArray).toList = l := by rw [Lib.toList_data]
theorem ba_size (l : List UInt8) : (⟨l.toArray⟩ : ByteArray).size = l.length := rfl
theorem ba_get (l : List UInt8) (j : Nat) : (⟨l.toArray⟩ : ByteArray)[j]? = l[j]? := by
  by_cases h : j < l.length
  · rw [List.getElem?_eq_getElem h]
    have h' : j < (⟨l.toArray⟩ : ByteArray).size := h
    rw [getElem?_pos (⟨l.toArray⟩ : ByteArray) j h']
    rfl
  · rw [List.getElem?_eq_none (by omega)]
    have h' : ¬ j < (⟨l.toArray⟩ : ByteArray).size := h
    exact getElem?_neg (⟨l.toArray⟩ : ByteArray) j h'
theorem ba_append (a b : List UInt8) : (⟨a.toArray⟩ : ByteArray) ++ (⟨b.toArray⟩ : ByteArray) = (⟨(a ++ b).toArray⟩ : ByteArray) := by
  rw [← Lib.mk_data ((⟨a.toArray⟩ : ByteArray) ++ (⟨b.toArray⟩ : ByteArray))]
  rw [ByteArray.data_append]
  simp
theorem sV_inj {a b : List UInt8} (h : sV a = sV b) : a = b := by
  injection h with h
  have := congrArg ByteArray.toList h
  rwa [ba_list, ba_list] at this
section
variable {P : Program} {n : Nat} {ops : Array Oper} {Q : Exit → Act → World → Prop} {rest : List Oper} {σ : Env} {w w' : World} {v u : Value}
variable {d : Nat} {ty : TypeId} {pos : String} {af : Array Edge} {x y z : Operand}
theorem Z87 {g : Option (Nat × Bool)} {t t' : TypeId} {a b : List UInt8} (hx : ev σ x = some (sV a)) (hy : ev σ y = some (sV b)) (hl : a.length + b.length ≤ 1000000000000) :
    DoesQ P ⟨some d, .binOp .add t x y t', ty, pos, af, g⟩ σ w (sV (a ++ b)) := ⟨fun w2 he => ⟨fun m c hf => by
  have h1 : ¬ (((⟨a.toArray⟩ : ByteArray).size + (⟨b.toArray⟩ : ByteArray).size : Nat) : Int) > IntKind.i64.max := by
    rw [ba_size, ba_size]
    have : IntKind.i64.max = 9223372036854775807 := rfl
    rw [this]
    omega
  have h2 := ba_append a b
  simp [execOp, fits_ev hf hx, fits_ev hf hy, binOp, eqGuard, Op.stringOp, h2]
  rw [ba_size, ba_size]
  omega⟩⟩
theorem Z85 {g : Option (Nat × Bool)} {t t' : TypeId} {a b : List UInt8} (hx : ev σ x = some (sV a)) (hy : ev σ y = some (sV b)) :
    DoesQ P ⟨some d, .binOp .eql t x y t', ty, pos, af, g⟩ σ w (.bool (decide (a = b))) := ⟨fun w2 he => ⟨fun m c hf => by
  simp [execOp, fits_ev hf hx, fits_ev hf hy, binOp, eqGuard, Op.stringOp, ba_list]
  rw [Bool.eq_iff_iff]
  simp⟩⟩
theorem Z86 {g : Option (Nat × Bool)} {t t' : TypeId} {a b : List UInt8} (hx : ev σ x = some (sV a)) (hy : ev σ y = some (sV b)) :
    DoesQ P ⟨some d, .binOp .neq t x y t', ty, pos, af, g⟩ σ w (.bool (!decide (a = b))) := ⟨fun w2 he => ⟨fun m c hf => by
  simp [execOp, fits_ev hf hx, fits_ev hf hy, binOp, eqGuard, Op.stringOp, ba_list]
  rw [Bool.eq_iff_iff]
  simp⟩⟩
theorem Z88 {g : Option (Nat × Bool)} {t : TypeId} {a : List UInt8} [TStr P t] (hx : ev σ x = some (sV a)) : DoesQ P ⟨some d, .call ⟨.builtin .len, #[x], #[t]⟩, ty, pos, af, g⟩ σ w (.int .i64 (a.length : Int)) := Z73 hx
theorem q_strAt {g : Option (Nat × Bool)} {t : TypeId} [TStr P t] {s : List UInt8} {i : Int} {j : Nat} (hx : ev σ x = some (sV s)) (hy : ev σ y = some (.int .i64 i)) (hj : i = (j : Int)) (hb : j < s.length) :
    DoesQ P ⟨some d, .index t x y, ty, pos, af, g⟩ σ w (.int .u8 (s[j].toNat : Int)) := q_index hx hy hj (by rw [ba_get, List.getElem?_eq_getElem hb])
/-- s[l:h], s[l:], s[:h] of a string. -/
theorem q_strSl {g : Option (Nat × Bool)} {t : TypeId} [TStr P t] {s : List UInt8} {i j : Int} {l h : Nat} (hx : ev σ x = some (sV s)) (hy : ev σ y = some (.int .i64 i)) (hz : ev σ z = some (.int .i64 j)) (hi : i = (l : Int)) (hj : j = (h : Int)) (hl : l ≤ h) (hh : h ≤ s.length) :
    DoesQ P ⟨some d, .slice t x (some y) (some z) none, ty, pos, af, g⟩ σ w (sV ((s.drop l).take (h - l))) := ⟨fun w2 he => ⟨fun m c hf => by
  subst hi; subst hj
  have h1 : (l : Int) ≤ (h : Int) := by omega
  have h2 : ¬ h < l := by omega
  have h3 : (h : Int) ≤ (s.length : Int) := by omega
  have h4 : ¬ s.length < h := by omega
  have h5 : (⟨s.toArray⟩ : ByteArray).extract l h = ⟨((s.drop l).take (h - l)).toArray⟩ := by rw [Lib.extract_eq]
  simp [execOp, fits_ev hf hx, fits_ev hf hy, fits_ev hf hz, Instr.sliceAt, Instr.slice, run_underlying (TStr.und (P := P) (t := t)), Instr.sliceBounds, Instr.sliceBound, asIntOf, ba_size, h1, h2, h3, h4, hl, hh, h5]⟩⟩
theorem q_strFrom {g : Option (Nat × Bool)} {t : TypeId} [TStr P t] {s : List UInt8} {i : Int} {l : Nat} (hx : ev σ x = some (sV s)) (hy : ev σ y = some (.int .i64 i)) (hi : i = (l : Int)) (hl : l ≤ s.length) :
    DoesQ P ⟨some d, .slice t x (some y) none none, ty, pos, af, g⟩ σ w (sV (s.drop l)) := ⟨fun w2 he => ⟨fun m c hf => by
  subst hi
  have h1 : (l : Int) ≤ (s.length : Int) := by omega
  have h2 : ¬ s.length < l := by omega
  have h5 : (⟨s.toArray⟩ : ByteArray).extract l s.length = ⟨(s.drop l).toArray⟩ := by
    rw [Lib.extract_eq]
    congr 2
    rw [List.take_of_length_le (by simp)]
  simp [execOp, fits_ev hf hx, fits_ev hf hy, Instr.sliceAt, Instr.slice, run_underlying (TStr.und (P := P) (t := t)), Instr.sliceBounds, Instr.sliceBound, asIntOf, ba_size, h1, h2, hl, h5]⟩⟩
/-- string(b) of bytes in memory. -/
theorem q_bytesStr {g : Option (Nat × Bool)} {s t e : TypeId} [TSl P s e 1] [TInt P e .u8] [TStr P t] {a : Addr} {cap : Nat} (l : List UInt8) (hx : ev σ x = some (.slice (some a) l.length cap)) (hc : ∀ j (hj : j < l.length), w.cell? (a.add j) = some (.int .u8 (l[j].toNat : Int))) :
    DoesQ P ⟨some d, .convert s t x, ty, pos, af, g⟩ σ w (sV l) := ⟨fun w2 he => ⟨fun m c hf => by
  have := run_convert_bytes_back (P := P) w2 s t e a cap l (TSl.und (P := P) (t := s) (e := e) (k := 1)) (TInt.und (P := P) (t := e) (k := .u8)) (TStr.und (P := P) (t := t)) (fun j hj => cell_ext (hc j hj) he)
  simp [execOp, fits_ev hf hx, this]⟩⟩
/-- A byte out of a number, and back. -/
theorem q_toByte {g : Option (Nat × Bool)} {s t : TypeId} {a : Int} [TInt P s .i64] [TInt P t .u8] (hx : ev σ x = some (.int .i64 a)) (h : 0 ≤ a ∧ a < 256) : DoesQ P ⟨some d, .convert s t x, ty, pos, af, g⟩ σ w (.int .u8 a) :=
  Z28 (k := .u8) (ks := .i64) hx (by rw [IntKind.wrap_u8]; omega)
theorem q_addU8 {g : Option (Nat × Bool)} {t t' : TypeId} {a b : Int} (hx : ev σ x = some (.int .u8 a)) (hy : ev σ y = some (.int .u8 b)) (h : 0 ≤ a + b ∧ a + b < 256) : DoesQ P ⟨some d, .binOp .add t x y t', ty, pos, af, g⟩ σ w (.int .u8 (a + b)) := ⟨fun w2 he => ⟨fun m c hf => by
  have : IntKind.u8.wrap (a + b) = a + b := by rw [IntKind.wrap_u8]; omega
  simp [execOp, fits_ev hf hx, fits_ev hf hy, binOp, eqGuard, Op.intArith, this]⟩⟩
theorem q_subU8 {g : Option (Nat × Bool)} {t t' : TypeId} {a b : Int} (hx : ev σ x = some (.int .u8 a)) (hy : ev σ y = some (.int .u8 b)) (h : 0 ≤ a - b ∧ a - b < 256) : DoesQ P ⟨some d, .binOp .sub t x y t', ty, pos, af, g⟩ σ w (.int .u8 (a - b)) := ⟨fun w2 he => ⟨fun m c hf => by
  have : IntKind.u8.wrap (a - b) = a - b := by rw [IntKind.wrap_u8]; omega
  simp [execOp, fits_ev hf hx, fits_ev hf hy, binOp, eqGuard, Op.intArith, this]⟩⟩
theorem q_fromByte {g : Option (Nat × Bool)} {s t : TypeId} {a : Int} [TInt P s .u8] [TInt P t .i64] (hx : ev σ x = some (.int .u8 a)) (h : 0 ≤ a ∧ a < 256) : DoesQ P ⟨some d, .convert s t x, ty, pos, af, g⟩ σ w (.int .i64 a) :=
  Z28 (k := .i64) (ks := .u8) hx (Z53 ⟨by omega, by omega⟩)
/-- string([]byte{..}) of one byte. -/
theorem WO_byteStr {t e bytes d1 : Nat} {z : Value} {ty1 : TypeId} {pos1 : String} {af1 : Array Edge} {s : TypeId} {b : UInt8} {i : Int} [TSl P t e 1] [TE P e z 1 bytes] [TInt P e .u8] [TStr P s] (hx : ev σ x = some (.int .u8 i)) (hi : i = (b.toNat : Int))
    (h : ∀ w', Ext w w' → w'.heap.size = w.heap.size + 1 → WO P n ops Q rest ((d, sV [b]) :: (d1, .slice (some ⟨w.heap.size, 0, none⟩) 1 1) :: σ) w') :
    WO P n ops Q (⟨some d1, .buildSlice t 1 #[(0, x)], ty1, pos1, af1, none⟩ :: ⟨some d, .convert t s (.tmp d1), ty, pos, af, none⟩ :: rest) σ w := by
  refine WO_build (e := e) (k := 1) (z := z) (bytes := bytes) [x] (vs := [.int .u8 i]) (cs := [.int .u8 i]) rfl (by simp [evs, hx]) rfl (by decide) (by decide) (by intro v hv; simp at hv; subst hv; rfl) rfl fun w1 hb1 he1 hz1 => ?_
  refine Z13 (q_bytesStr (e := e) [b] (look_cons_same _ _ _) (fun j hj => ?_)) (h w1 he1 hz1)
  have : j = 0 := by simp at hj; omega
  subst this
  rw [add_some]
  exact hb1.cell (by simp [hi])
end
end Go.Proofs.YtplcmbipeanjdaaGreatDoor
namespace Go.Proofs.YtplcmbipeanjdaaGreatDoor
set_option linter.unusedVariables false
set_option linter.unusedSimpArgs false
set_option linter.unnecessarySimpa false
open Go.RowKit

/-! ### Copies -/
def zeroSt : List Value := [.int .i64 0, .int .i64 0, .int .i64 0, .int .i64 0, .slice none 0 0, .slice none 0 0]
def zeros (k : Nat) : List Value := (List.replicate k zeroSt).flatten
theorem zeros_length (k : Nat) : (zeros k).length = k * 6 := by simp [zeros, zeroSt]
theorem zeros_succ (k : Nat) : zeros (k + 1) = zeroSt ++ zeros k := by simp [zeros, List.replicate_succ]
/-- A statement by value in new memory. -/
def NewSt (e : TypeId) (op x y n : Int) (t el : Ss) (w : World) (r : Value) (w' : World) : Prop :=
  ∃ vt ve Ft Fe, r = stV op x y n vt ve ∧ RowS e w' vt t Ft ∧ RowS e w' ve el Fe ∧ (Ft ++ Fe).Nodup ∧ (∀ b ∈ Ft ++ Fe, w.heap.size ≤ b) ∧ Ext w w'
/-! ### Marks -/
def markS : Int → Ss → Ss
  | _, .nil => .nil
  | k, .cons _ _ _ _ t e r => .cons k (k + 1) (k + 2) (k + 3) (markS (k + 4) t) (markS (k + 4 + 4 * cntL t) e) (markS (k + 4 + 4 * cntL t + 4 * cntL e) r)
theorem markS_len : ∀ (l : Ss) (k : Int), (markS k l).len = l.len
  | .nil, _ => rfl
  | .cons op x y n t e r, k => by simp [markS, Ss.len, markS_len r]
theorem markS_cntL : ∀ (l : Ss) (k : Int), cntL (markS k l) = cntL l
  | .nil, _ => rfl
  | .cons op x y n t e r, k => by simp [markS, cntL, markS_cntL t, markS_cntL e, markS_cntL r]
end Go.Proofs.YtplcmbipeanjdaaGreatDoor
namespace Go.Proofs.YtplcmbipeanjdaaGreatDoor
set_option linter.unusedVariables false
set_option linter.unusedSimpArgs false
set_option linter.unnecessarySimpa false
open Go.RowKit

/-- What a result variable holds. -/
inductive ResOk (P : Program) (σ : Env) (w : World) : ResultVar → Value → Prop
  | tmp {t : Nat} {v : Value} (h : look σ t = some v) : ResOk P σ w (.tmp t) v
  | cell {a b : Nat} {t : TypeId} {k : Nat} {cs : List Value} {t' : TypeId} (hk : TS P t k) (hv : look σ a = some (.pointer (some ⟨b, 0, none⟩))) (hb : Blk w b cs t') (hl : cs.length = k) : ResOk P σ w (.cell a t) (.agg cs.toArray)
section
variable {P : Program} {n : Nat} {σ : Env} {w : World} {fn : Func} {Post : Value → World → Prop} {r1 r2 r3 : ResultVar} {v1 v2 v3 : Value}
def resM (tmps : Array Value) : ResultVar → Sem Value
  | .tmp t => pure (tmps.getD t undef)
  | .cell a t => do loadVar t (← asAddr (tmps.getD a undef))
theorem ResOk.run {a : Act} (hf : Fits n σ a) (h : ResOk P σ w r1 v1) : (resM a.tmps r1).run P w = .ok v1 w := by
  cases h with
  | tmp h => simp [resM, hf.has _ _ h]
  | @cell a b t k cs t' hk hv hb hl =>
    have hrun := run_loadVar_cells (P := P) (t := t) (w := w) (b := b) (o := 0) hl (fun j u hu => by rw [Nat.zero_add]; exact hb.cell hu)
    simp [resM, hf.has _ _ hv, asAddr, hrun]
theorem results_resM (tmps : Array Value) : results fn tmps = (do let vs ← fn.results.mapM (resM tmps); pure (if h : vs.size = 1 then vs[0] else .tuple vs)) := by
  unfold results
  congr 1
theorem at_ret2G (hr : fn.results = #[r1, r2]) (h1 : ResOk P σ w r1 v1) (h2 : ResOk P σ w r2 v2) (h : Post (.tuple #[v1, v2]) w) : AtQ n (bodyPost P fn fun e w' => ∃ v, e = .returned v ∧ Post v w') .ret σ w := ⟨fun a hf =>
  ⟨hf.defers, .tuple #[v1, v2], by rw [results_resM, hr]; simp [h1.run hf, h2.run hf], _, rfl, h⟩⟩
theorem at_ret3G (hr : fn.results = #[r1, r2, r3]) (h1 : ResOk P σ w r1 v1) (h2 : ResOk P σ w r2 v2) (h3 : ResOk P σ w r3 v3) (h : Post (.tuple #[v1, v2, v3]) w) : AtQ n (bodyPost P fn fun e w' => ∃ v, e = .returned v ∧ Post v w') .ret σ w := ⟨fun a hf =>
  ⟨hf.defers, .tuple #[v1, v2, v3], by rw [results_resM, hr]; simp [h1.run hf, h2.run hf, h3.run hf], _, rfl, h⟩⟩
end
end Go.Proofs.YtplcmbipeanjdaaGreatDoor
