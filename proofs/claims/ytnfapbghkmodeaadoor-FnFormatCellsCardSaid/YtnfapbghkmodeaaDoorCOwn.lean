/-
  What is proved here: copies of rows of tags and cells: slices.Clone, ownCells, l6Copy.
-/
import Derived.Test.YtnfapbghkmodeaaDoorCVal
import Derived.Test.YtnfapbghkmodeaaDoorCMk
import Derived.Test.YtnfapbghkmodeaaDoorApp
namespace Go.Proofs.YtnfapbghkmodeaaDoor
set_option linter.unusedVariables false
set_option linter.unusedSimpArgs false
set_option linter.unnecessarySimpa false
open Go.RowKit

theorem tgs_cells {w : World} {A : Option Addr} {n c : Nat} {l : List Tg} {F : List Nat} (h : TgS w (.slice A n c) l F) (h0 : l ≠ []) : ∃ b o, A = some ⟨b, o, none⟩ ∧ n = l.length ∧ ∀ j u, (tagCells l)[j]? = some u → w.cell? ⟨b, o + j, none⟩ = some u := by
  obtain ⟨A', c', e, _, ⟨h1, _⟩ | ⟨b, o, F', hA, hF, hc⟩⟩ := h
  · exact absurd (List.eq_nil_of_length_eq_zero h1) h0
  · cases e
    refine ⟨b, o, hA, rfl, fun j u hj => ?_⟩
    have hlt : j < l.length * 2 := by rw [← tagCells_length]; exact (List.getElem?_eq_some_iff.1 hj).1
    obtain ⟨a1, a2⟩ := encT_at l b o F' hc (j / 2) (by omega)
    obtain ⟨b1, b2⟩ := tagCells_get l (j / 2) (by omega)
    rcases Nat.mod_two_eq_zero_or_one j with hm | hm
    · have e1 : j / 2 * 2 = j := by omega
      rw [e1] at a1 b1
      rw [a1, ← b1, hj]
    · have e1 : j / 2 * 2 + 1 = j := by omega
      rw [Nat.add_assoc, e1] at a2
      rw [e1] at b2
      rw [a2, ← b2, hj]
theorem tagCells_one (l : List Tg) : ∀ u ∈ tagCells l, u.oneCell' = true := by
  induction l with
  | nil => simp [tagCells]
  | cons t r ih =>
    intro u hu
    simp only [tagCells, List.mem_cons] at hu
    rcases hu with rfl | rfl | hu
    · rfl
    · rfl
    · exact ih u hu
theorem row_of {e : TypeId} {w w' : World} {v : Value} {l : List Tg} {B : Nat} (h : w'.ownsRow B e 2 v l.length (tagCells l)) (hB : w.heap.size ≤ B) (he : Ext w w') : NewTags e l w v w' :=
  ⟨⟨v.ownBlock.toList, ⟨ownsRow_base0 h, rfl⟩, fun b hb => Nat.le_trans hB (h.lt b (by simpa using hb)).1⟩, he⟩
/-- The cells of a row of cells: their stacks can be read in the world w. -/
def Raw (w : World) : List Ce → List Value → Prop
  | [], xs => xs = []
  | c :: r, xs => ∃ vs Fs xr, xs = .int .i64 c.val :: .bool c.al :: .int .i64 c.nx :: vs :: xr ∧ TgS w vs c.st Fs ∧ Raw w r xr
theorem Raw.length {w : World} : ∀ {l : List Ce} {xs : List Value}, Raw w l xs → xs.length = l.length * 4
  | [], _, h => by rw [h]; rfl
  | c :: r, _, ⟨vs, Fs, xr, e, _, hr⟩ => by
    have := hr.length
    subst e
    simp [this]
    omega
theorem Raw.one {w : World} : ∀ {l : List Ce} {xs : List Value}, Raw w l xs → ∀ u ∈ xs, u.oneCell' = true
  | [], _, h => by rw [h]; simp
  | c :: r, _, ⟨vs, Fs, xr, e, ht, hr⟩ => by
    subst e
    intro u hu
    simp only [List.mem_cons] at hu
    rcases hu with rfl | rfl | rfl | rfl | hu
    · rfl
    · rfl
    · rfl
    · obtain ⟨_, _, rfl, _⟩ := ht.slice; rfl
    · exact hr.one u hu
theorem raw_of {w : World} : ∀ (l : List Ce) (b o : Nat) (F : List Nat), CsAt w (encC l) b o F → ∃ xs, Raw w l xs ∧ ∀ j u, xs[j]? = some u → w.cell? ⟨b, o + j, none⟩ = some u
  | [], _, _, _, _ => ⟨[], rfl, by simp⟩
  | c :: r, b, o, F, ⟨h1, h2, h3, vs, F1, F2, e, h4, hs, hr⟩ => by
    obtain ⟨xr, hx, hc⟩ := raw_of r b (o + 1 + 1 + 1 + 1) F2 hr
    refine ⟨_, ⟨vs, F1, xr, rfl, hs, hx⟩, fun j u hu => ?_⟩
    match j, hu with
    | 0, hu => cases hu; exact h1
    | 1, hu => cases hu; exact h2
    | 2, hu => cases hu; exact h3
    | 3, hu => cases hu; exact h4
    | j + 4, hu =>
      rw [show o + (j + 4) = o + 1 + 1 + 1 + 1 + j from by omega]
      exact hc j u (by simpa using hu)
theorem ces_raw {w : World} {A : Option Addr} {n c : Nat} {l : List Ce} {F : List Nat} (h : CeS w (.slice A n c) l F) (h0 : l ≠ []) : ∃ b o xs, A = some ⟨b, o, none⟩ ∧ n = l.length ∧ Raw w l xs ∧ ∀ j u, xs[j]? = some u → w.cell? ⟨b, o + j, none⟩ = some u := by
  obtain ⟨A', c', e, _, ⟨h1, _⟩ | ⟨b, o, F', hA, hF, hc⟩⟩ := h
  · exact absurd (List.eq_nil_of_length_eq_zero h1) h0
  · cases e
    obtain ⟨xs, h1, h2⟩ := raw_of l b o F' hc
    exact ⟨b, o, xs, hA, rfl, h1, h2⟩
theorem raw_drop {w : World} {l : List Ce} {xs : List Value} {i : Nat} (h : Raw w (l.drop i) xs) (hi : i < l.length) : ∃ vs Fs xr, xs = .int .i64 l[i].val :: .bool l[i].al :: .int .i64 l[i].nx :: vs :: xr ∧ TgS w vs l[i].st Fs ∧ Raw w (l.drop (i + 1)) xr := by
  rw [List.drop_eq_getElem_cons hi] at h
  exact h
theorem stk_one {e : TypeId} {w : World} {c : Ce} {vs : Value} {F : List Nat} (h : RowT e w vs c.st F) : Stk e w [c] [.int .i64 c.val, .bool c.al, .int .i64 c.nx, vs] F := ⟨vs, F, [], [], rfl, by simp, h, rfl, rfl⟩
theorem set_mid {xs1 xr : List Value} {a b c d d' : Value} {p : Nat} (hp : xs1.length = p) : (xs1 ++ (a :: b :: c :: d :: xr)).set (p + 3) d' = (xs1 ++ [a, b, c, d']) ++ xr := by
  subst hp
  rw [List.set_append_right _ _ (by omega)]
  simp
/-- A row of cells in new memory that can grow. -/
def NewRow (e eT : TypeId) (l : List Ce) (w : World) (v' : Value) (w' : World) : Prop :=
  (∃ xs Fs, w'.ownsRow w.heap.size e 4 v' l.length xs ∧ Stk eT w' l xs Fs ∧ (v'.ownBlock.toList ++ Fs).Nodup ∧ ∀ b ∈ v'.ownBlock.toList ++ Fs, w.heap.size ≤ b) ∧ Ext w w'
theorem NewRow.cells {e eT : TypeId} {l : List Ce} {w w' : World} {v' : Value} (h : NewRow e eT l w v' w') : NewCells e eT l w v' w' := by
  obtain ⟨⟨xs, Fs, h1, h2, h3, h4⟩, h5⟩ := h
  exact ⟨⟨_, ⟨xs, Fs, ownsRow_base0 h1, h2, rfl⟩, h3, h4⟩, h5⟩
/-- One more cell is appended. -/
theorem NewRow.step {e eT : TypeId} {l : List Ce} {c : Ce} {w w1 w2 : World} {v v' us : Value} {Fu : List Nat} {xs : List Value} {Fs : List Nat}
    (h1 : w1.ownsRow w.heap.size e 4 v l.length xs) (h2 : Stk eT w1 l xs Fs) (h3 : (v.ownBlock.toList ++ Fs).Nodup) (h4 : ∀ b ∈ v.ownBlock.toList ++ Fs, w.heap.size ≤ b) (he : Ext w w1)
    (hu : RowT eT w1 us c.st Fu) (hd : ∀ x ∈ Fu, x ∉ v.ownBlock.toList ++ Fs) (hB : ∀ x ∈ Fu, w.heap.size ≤ x)
    (k1 : w2.ownsRow w.heap.size e 4 v' (l.length + 1) (xs ++ [.int .i64 c.val, .bool c.al, .int .i64 c.nx, us])) (k2 : w1.grownBy w2 v.ownBlock) (k3 : v'.ownBlock = v.ownBlock ∨ ∃ b, v'.ownBlock = some b ∧ w1.heap.size ≤ b) : NewRow e eT (l ++ [c]) w v' w2 := by
  have hc := grown_chg k2
  have hdis : ∀ x ∈ Fs ++ Fu, x ∉ v.ownBlock.toList := fun x hx hm => by
    rcases List.mem_append.1 hx with hx | hx
    · exact (List.nodup_append.1 h3).2.2 x hm x hx rfl
    · exact hd x hx (by simp [hm])
  have hlt : ∀ x ∈ Fs ++ Fu, x < w1.heap.size := fun x hx => by
    rcases List.mem_append.1 hx with hx | hx
    · exact h2.lt x hx
    · exact hu.lt x hx
  have hnew : ∀ x ∈ v'.ownBlock.toList, x ∉ Fs ++ Fu := fun x hx hm => by
    rcases k3 with k3 | ⟨b, k3, hb⟩
    · rw [k3] at hx; exact hdis x hm hx
    · rw [k3] at hx; simp at hx; subst hx; have := hlt x hm; omega
  refine ⟨⟨_, Fs ++ Fu, by simpa using k1, Stk.append (h2.imp fun v l' F' hF' hr => hr.chg hc fun x hx => hdis x (by simp [hF' x hx])) (stk_one (hu.chg hc fun x hx => hdis x (by simp [hx]))), ?_, ?_⟩, ?_⟩
  · refine List.nodup_append.2 ⟨by cases v'.ownBlock <;> simp, List.nodup_append.2 ⟨(List.nodup_append.1 h3).2.1, hu.nodup, fun a ha b hb e => hd b hb (by simp [← e, ha])⟩, fun a ha b hb e => hnew a ha (e ▸ hb)⟩
  · intro b hb
    rcases List.mem_append.1 hb with hb | hb
    · rcases k3 with k3 | ⟨b', k3, hb'⟩
      · exact h4 b (by rw [k3] at hb; simp [hb])
      · rw [k3] at hb; simp at hb; subst hb; have := he.size_le; omega
    · rcases List.mem_append.1 hb with hb | hb
      · exact h4 b (by simp [hb])
      · exact hB b hb
  · exact ext_grown he k2 fun b hb => h4 b (by simp [hb])
section
variable {P : Program} {n : Nat} {ops : Array Oper} {Q : Exit → Act → World → Prop} {rest : List Oper} {σ : Env} {w : World} {v u : Value}
variable {d : Nat} {ty : TypeId} {pos : String} {af : Array Edge} {x s : Operand}
/-- Tags that can be read are appended to an owned row. -/
theorem WO_appT {t e bytes B : Nat} {z : Value} [TSl P t e 2] [TE P e z 2 bytes] {l0 l : List Tg} {F : List Nat} (hs : ev σ s = some v) (hown : w.ownsRow B e 2 v l0.length (tagCells l0)) (hx : ev σ x = some u) (hsrc : TgS w u l F)
    (hB : B ≤ w.heap.size) (hm : l0.length + l.length ≤ 1000000000000) (hby : bytes ≤ 100)
    (h : ∀ v' w', w'.ownsRow B e 2 v' (l0 ++ l).length (tagCells (l0 ++ l)) → w.grownBy w' v.ownBlock → (v'.ownBlock = v.ownBlock ∨ v'.ownBlock = some w.heap.size) → WO P n ops Q rest ((d, v') :: σ) w') :
    WO P n ops Q (⟨some d, .call ⟨.builtin .append, #[s, x], #[t, t]⟩, ty, pos, af, none⟩ :: rest) σ w := by
  obtain ⟨A, c, rfl, hl⟩ := hsrc.slice
  by_cases h0 : l = []
  · subst h0
    exact WO_append0 (e := e) (k := 2) (bytes := bytes) (z := z) hs hown hx hB (by decide) (by simpa using hm) hby fun v' w' h1 h2 h3 => h v' w' (by simpa using h1) h2 h3
  · obtain ⟨b, o, rfl, _, hc⟩ := tgs_cells hsrc h0
    exact WO_append (e := e) (k := 2) (bytes := bytes) (z := z) (mm := l.length) (news := tagCells l) hs hown hx (tagCells_length l) hc (tagCells_one l) hB (by decide) hm hby fun v' w' h1 h2 h3 => h v' w' (by rw [List.length_append, tagCells_append]; exact h1) h2 h3
end
theorem l6Copy_ret (v : Value) (l : List Ce) (F : List Nat) (w : World) (h : CeS w v l F) (hn : cSize l ≤ 1048576) :
    Ret Tryd.prog 51 [v] w (NewRow 43 54 l w) := by
  obtain ⟨A, c, rfl, hl⟩ := h.slice
  have hlen : l.length ≤ 1048576 := by unfold cSize at hn; omega
  have hsum : (l.map fun c => c.st.length).sum ≤ 1048576 := by unfold cSize at hn; omega
  refine enter Tryd.func51 rfl Tryd.ntmps51 rfl rfl ?_
  refine goS ?_
  refine WO_build0 (e := 43) (k := 4) fun w0 hb0 e0 z0 => ?_
  have hown0 := owns_empty (B := w.heap.size) (k := 4) hb0 (Nat.le_refl _)
  refine goS ?_
  refine W_loop (α := Nat × Value) (fun p => [(0, .slice A l.length c), (3, p.2), (4, .int .i64 (p.1 : Int))])
    (fun p w' => p.1 ≤ l.length ∧ NewRow 43 54 (l.take p.1) w p.2 w') (fun p => l.length - p.1) (0, _) (by repeat (first | exact True.intro | refine And.intro rfl ?_))
    ⟨Nat.zero_le _, ⟨[], [], hown0, ⟨rfl, rfl⟩, by simp [Value.ownBlock], by simp [Value.ownBlock]⟩, e0⟩ ?_
  rintro ⟨i, vo⟩ w1 ⟨hi, hrow, he⟩
  simp only at hi hrow ⊢
  refine goS ?_
  refine Z52 rfl (fun hc => ?_) (fun hc => ?_)
  · have hlt : i < l.length := by simpa using hc
    obtain ⟨xs, Fs, r1, r2, r3, r4⟩ := hrow
    obtain ⟨b, o, vs, Fv, rfl, _, c0, c1, c2, c3, hts, _⟩ := ces_at (h.ext he) hlt
    have hone : vs.oneCell' = true := by obtain ⟨_, _, rfl, _⟩ := hts.slice; rfl
    have hst := Nat.le_trans (st_le l i hlt) hsum
    refine goS ?_
    refine Z83 rfl rfl rfl hlt ?_
    refine WO_loadS rfl rfl (four c0 c1 c2 c3) ?_
    refine WO_alloc fun w2 hs e2 z2 => ?_
    refine WO_storeS (k := 4) (vs := [.int .i64 l[i].val, .bool l[i].al, .int .i64 l[i].nx, vs]) rfl rfl rfl (by intro v hv; simp at hv; rcases hv with rfl | rfl | rfl | rfl <;> first | rfl | exact hone) hs (by decide) fun w3 hs3 o3 => ?_
    replace hs3 : Blk w3 w1.heap.size [.int .i64 l[i].val, .bool l[i].al, .int .i64 l[i].nx, vs] _ := hs3
    have e3 : Ext w1 w3 := e2.only o3 (Nat.le_refl _)
    have hs3lt := hs3.lt
    replace hts := hts.ext e3
    refine goS ?_
    refine WO_build0 (e := 54) (k := 2) fun w4 hb4 e4 z4 => ?_
    have hown4 := owns_empty (B := w3.heap.size) (k := 2) hb4 (Nat.le_refl _)
    replace hs3 := hs3.ext e4
    refine goS ?_
    refine WO_appT (l0 := []) rfl hown4 rfl (hts.ext e4) e4.size (by simp; omega) (by decide) fun us w5 hown5 hg5 hat5 => ?_
    have e5 : Ext w3 w5 := grown_below e4 hown4 hg5 (Nat.le_refl _)
    have c45 := grown_chg hg5
    replace hs3 := hs3.chg c45 (by simp [Value.ownBlock]; omega)
    have hu5 : RowT 54 w5 us l[i].st us.ownBlock.toList := ⟨by simpa using ownsRow_base0 hown5, rfl⟩
    have hone' : us.oneCell' = true := by obtain ⟨_, _, rfl, _⟩ := hu5.slice; rfl
    refine goS ?_
    refine WO_store1 rfl rfl hone' hs3 (by simp) fun w6 hs6 o6 => ?_
    simp only [List.set_cons_zero, List.set_cons_succ] at hs6
    have e6 : Ext w1 w6 := (e3.trans e5).only o6 (Nat.le_refl _)
    have hu6 := hu5.chg o6.chg (fun x hx hm => by
      simp at hm hx
      subst hm
      have := (hown5.lt _ hx).1
      omega)
    have r16 := ownsRow_ext r1 e6
    have r26 := r2.imp (fun v l' F' _ hr => hr.ext e6)
    have huB : ∀ x ∈ us.ownBlock.toList, w3.heap.size ≤ x := fun x hx => (hown5.lt x (by simpa using hx)).1
    refine goS ?_
    refine WO_loadSB rfl hs6 rfl ?_
    refine WO_app1 (m := (l.take i).length) (u := .agg #[.int .i64 l[i].val, .bool l[i].al, .int .i64 l[i].nx, us]) rfl rfl (by intro v hv; simp [Value.cells] at hv; rcases hv with rfl | rfl | rfl | rfl <;> first | rfl | exact hone') rfl r16 (he.trans e6).size rfl (by simp; omega) (by decide) fun v' w7 hown7 hg7 hat7 => ?_
    refine goS ?_
    refine at_loop (i + 1, v') (by repeat (first | exact True.intro | refine And.intro rfl ?_)) ⟨hlt, ?_⟩ (by simp only; omega)
    simp only
    rw [List.take_succ_eq_append_getElem hlt]
    refine NewRow.step r16 r26 r3 r4 (he.trans e6) hu6 (fun x hx hm => ?_) (fun x hx => ?_) hown7 hg7 ?_
    · have h1 := huB x hx
      have h2 : x < w1.heap.size := by
        rcases List.mem_append.1 hm with hm | hm
        · exact (r1.lt x (by simpa using hm)).2
        · exact r2.lt x hm
      have := e3.size_le
      omega
    · have := huB x hx; have := e3.size_le; have := he.size_le; omega
    · rcases hat7 with h7 | h7
      · exact .inl h7
      · exact .inr ⟨_, h7, by omega⟩
  · have hge : i = l.length := by simp at hc; omega
    subst hge
    rw [List.take_length] at hrow
    refine goS ?_
    exact at_ret1 rfl rfl ⟨hrow, he⟩
end Go.Proofs.YtnfapbghkmodeaaDoor
