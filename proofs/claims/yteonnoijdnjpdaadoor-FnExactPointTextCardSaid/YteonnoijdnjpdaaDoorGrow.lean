/-
  What is proved here: regions that append to a slice that a struct's field holds, and store the result back, whatever their order. No function of the program stands here.
-/
import Derived.Test.YteonnoijdnjpdaaDoorWx
namespace Go.Proofs.YteonnoijdnjpdaaDoor
set_option linter.unusedVariables false
set_option linter.unusedSimpArgs false
set_option linter.unnecessarySimpa false
open Go.RowKit

theorem look_skip {σ : Env} {d s : Nat} {x v : Value} (h : look σ s = some v) (hne : Nat.beq d s = false) : look ((d, x) :: σ) s = some v := by
  simp [look, hne, h]
theorem look_passed {σ : Env} {d s : Nat} {x : Value} (hne : Nat.beq d s = false) : look ((d, x) :: σ) s = look σ s := by
  simp [look, hne]
/-- A frame that was filled at a few slots only. -/
def Kept (ds : List Nat) (σ σ' : Env) : Prop := ∀ s, ds.all (fun d => !Nat.beq d s) = true → look σ' s = look σ s
theorem Kept.refl (ds : List Nat) (σ : Env) : Kept ds σ σ := fun _ _ => rfl
theorem Kept.put {ds : List Nat} {σ σ' : Env} {d : Nat} {v : Value} (h : Kept ds σ σ') (hd : d ∈ ds) : Kept ds σ ((d, v) :: σ') := fun s hs => by
  have h1 : Nat.beq d s = false := by
    have := List.all_eq_true.1 hs d hd
    simpa using this
  rw [look_passed h1, h s hs]
theorem Kept.mono {ds es : List Nat} {σ σ' : Env} (h : Kept ds σ σ') (hs : ∀ d ∈ ds, d ∈ es) : Kept es σ σ' := fun s hq => h s (List.all_eq_true.2 fun d hd => List.all_eq_true.1 hq d (hs d hd))
theorem sub_kept {ds : List Nat} {τ σ σ' : Env} (hs : Sub τ σ) (hk : Kept ds σ σ') (ht : τ.all (fun p => ds.all fun d => !Nat.beq d p.1) = true) : Sub τ σ' := by
  induction τ with
  | nil => trivial
  | cons p τ ih =>
    obtain ⟨d, v⟩ := p
    simp only [List.all_cons, Bool.and_eq_true] at ht
    exact ⟨by rw [hk d ht.1]; exact hs.1, ih hs.2 ht.2⟩
theorem one_of_row {w : World} {B e k m : Nat} {v : Value} {xs : List Value} (h : w.ownsRow B e k v m xs) : v.oneCell' = true := by
  obtain ⟨_, ⟨rfl, _⟩ | ⟨g, cap, cur, rfl, _⟩⟩ := h <;> rfl

section
variable {P : Program} {n : Nat} {ops : List Oper} {σ τ : Env} {T : Env → World → Prop} {fuel : Nat} {listed : List Bool} {w w0 : World} {v u : Value} {G : List Nat}
variable {ty ty' tp tt : TypeId} {pos pos' : String} {af af' : Array Edge}
/-- What is appended is there; then the result is stored. -/
theorem WH_appSt (i3 i5 i4 : Nat) {t e k bytes B m b o mm c d1 d2 d3 da dp pb f ts ks ty5 : Nat} {pos5 : String} {af5 : Array Edge} {z : Value} [TSl P t e k] [TE P e z k bytes] [T1 P tt] [TS P ts ks] {xs news cs : List Value}
    (hi3 : ops[i3]? = some ⟨some d3, .call ⟨.builtin .append, #[.tmp d1, .tmp d2], #[t, t]⟩, ty, pos, af, none⟩)
    (hi5 : ops[i5]? = some ⟨some da, .fieldAddr ts (.tmp dp) f, ty5, pos5, af5, none⟩)
    (hi4 : ops[i4]? = some ⟨none, .store tt (.tmp da) (.tmp d3), ty', pos', af', none⟩)
    (hr3 : Region.ready .any ops.toArray listed.toArray = [i3])
    (hr5 : Region.ready .any ops.toArray (listed.set i3 true).toArray = [i5])
    (hr4 : Region.ready .any ops.toArray ((listed.set i3 true).set i5 true).toArray = [i4])
    (h1 : look σ d1 = some v) (h2 : look σ d2 = some (.slice (some ⟨b, o, none⟩) mm c)) (hdp : look σ dp = some (.pointer (some ⟨pb, 0, none⟩))) (hne : Nat.beq d3 dp = false ∧ Nat.beq da d3 = false) (hfk : Nat.blt f ks = true)
    (hown : w.ownsRow B e k v m xs) (hl : news.length = mm * k) (hc : ∀ j u, news[j]? = some u → w.cell? ⟨b, o + j, none⟩ = some u) (h1c : ∀ u ∈ news, u.oneCell' = true)
    (hB : B ≤ w.heap.size) (hk : 0 < k) (hm : m + mm ≤ 1000000000000) (hby : bytes ≤ 100)
    (hp : Blk w pb cs tp) (hf : f < cs.length) (hvp : v.ownBlock ≠ some pb)
    (hG : ∀ w', Chg (pb :: v.ownBlock.toList) w w' → Chg G w0 w')
    (h : ∀ v' w', Blk w' pb (cs.set f v') tp → w'.ownsRow B e k v' (m + mm) (xs ++ news) → Chg (pb :: v.ownBlock.toList) w w' → (v'.ownBlock = v.ownBlock ∨ v'.ownBlock = some w.heap.size) →
      WH P n ops T (Chg G w0) fuel (((listed.set i3 true).set i5 true).set i4 true) ((da, .pointer (some ⟨pb, f, none⟩)) :: (d3, v') :: σ) w') :
    WH P n ops T (Chg G w0) (fuel + 3) listed σ w := by
  refine WH_one i3 hi3 hr3 (WO_append (B := B) h1 hown h2 hl hc h1c hB hk hm hby fun v' w1 k1 k2 k3 => Z31 (at_held (hG _ ((grown_chg k2).mono (by intro x hx; simp at hx; simp [hx]))) ?_))
  have hp1 : Blk w1 pb cs tp := hp.grown k2 (fun e => hvp e.symm)
  have hvp' : v'.ownBlock ≠ some pb := by
    rcases k3 with k3 | k3
    · rw [k3]; exact hvp
    · rw [k3]
      intro e
      have := hp.lt
      have := Option.some.inj e
      omega
  have c1 : Chg (pb :: v.ownBlock.toList) w w1 := (grown_chg k2).mono (by intro x hx; simp at hx; simp [hx])
  refine WH_one i5 hi5 hr5 (Z7 (look_skip hdp hne.1) hfk (Z31 (at_held (hG _ c1) ?_)))
  refine WH_one i4 hi4 hr4 (WO_store1 (look_cons_same _ _ _) (look_skip (look_cons_same _ _ _) hne.2) (one_of_row k1) hp1 hf fun w2 hp2 o2 => ?_)
  have c2 : Chg (pb :: v.ownBlock.toList) w w2 := c1.trans (o2.chg.mono (by simp))
  exact Z31 (at_held (hG _ c2) (h v' w2 hp2 (ownsRow_only k1 o2 hvp') c2 k3))
/-- The slice is loaded and the literal built, whichever first. -/
theorem WH_loadBuild (i1 i2 : Nat) {t e k bytes d1 d2 dl dx pb f : Nat} {z : Value} [TSl P t e k] [TE P e z k bytes] [T1 P tt] {cs : List Value}
    (hi1 : ops[i1]? = some ⟨some d1, .load tt (.tmp dl), ty, pos, af, none⟩)
    (hi2 : ops[i2]? = some ⟨some d2, .buildSlice t 1 #[(0, .tmp dx)], ty', pos', af', none⟩)
    (hr : Region.ready .any ops.toArray listed.toArray = [i1, i2])
    (hra : Region.ready .any ops.toArray (listed.set i1 true).toArray = [i2])
    (hrb : Region.ready .any ops.toArray (listed.set i2 true).toArray = [i1])
    (hne : i1 ≠ i2) (hd : (Nat.beq d1 d2 = false ∧ Nat.beq d2 d1 = false) ∧ Nat.beq d1 dx = false ∧ Nat.beq d2 dl = false)
    (hdl : look σ dl = some (.pointer (some ⟨pb, f, none⟩))) (hx : look σ dx = some u) (hu : u.cells.size = k) (hk : (0 < k && Nat.ble k 1000) = true)
    (hp : Blk w pb cs tp) (hv : cs[f]? = some v)
    (hG : ∀ w', Ext w w' → Chg G w0 w')
    (h : ∀ σ' w', look σ' d1 = some v → look σ' d2 = some (.slice (some ⟨w.heap.size, 0, none⟩) 1 1) → Kept [d1, d2] σ σ' → Blk w' w.heap.size u.cells.toList e → Ext w w' → w'.heap.size = w.heap.size + 1 →
      WH P n ops T (Chg G w0) fuel ((listed.set i1 true).set i2 true) σ' w') :
    WH P n ops T (Chg G w0) (fuel + 2) listed σ w := by
  simp only [Bool.and_eq_true, decide_eq_true_eq] at hk
  have hk2 := Nat.le_of_ble_eq_true hk.2
  obtain ⟨⟨ha, hb⟩, hc, hd⟩ := hd
  have hS := hG w (Ext.refl w)
  refine WH_two i1 i2 hi1 hi2 hr ?_ ?_
  · refine Z10 (o := f) hdl hp hv (Z31 (at_held hS (WH_one i2 hi2 hra ?_)))
    refine WO_build (e := e) (k := k) [.tmp dx] (vs := [u]) (cs := u.cells.toList) rfl (by simp [evs, ev, look_skip hx hc]) rfl (by rw [Nat.ble_eq]; omega) (by rw [Nat.ble_eq]; omega) (by simp [hu]) (by simp) fun w1 hb1 he1 hz1 => ?_
    exact Z31 (at_held (hG _ he1) (h _ w1 (look_skip (look_cons_same _ _ _) hb) (look_cons_same _ _ _) (((Kept.refl _ _).put (by simp)).put (by simp)) hb1 he1 hz1))
  · refine WO_build (e := e) (k := k) [.tmp dx] (vs := [u]) (cs := u.cells.toList) rfl (by simp [evs, ev, hx]) rfl (by rw [Nat.ble_eq]; omega) (by rw [Nat.ble_eq]; omega) (by simp [hu]) (by simp) fun w1 hb1 he1 hz1 => ?_
    refine Z31 (at_held (hG _ he1) (WH_one i1 hi1 hrb (Z10 (o := f) (look_skip hdl hd) (hp.ext he1) hv (Z31 (at_held (hG _ he1) ?_)))))
    rw [List.set_comm _ _ hne.symm]
    exact h _ w1 (look_cons_same _ _ _) (look_skip (look_cons_same _ _ _) ha) (((Kept.refl _ _).put (by simp)).put (by simp)) hb1 he1 hz1
/-- What is built is there already; the slice is loaded. -/
theorem WH_load (i1 : Nat) {d1 dl pb f : Nat} [T1 P tt] {cs : List Value}
    (hi1 : ops[i1]? = some ⟨some d1, .load tt (.tmp dl), ty, pos, af, none⟩) (hr : Region.ready .any ops.toArray listed.toArray = [i1])
    (hdl : look σ dl = some (.pointer (some ⟨pb, f, none⟩))) (hp : Blk w pb cs tp) (hv : cs[f]? = some v) (hS : Chg G w0 w)
    (h : WH P n ops T (Chg G w0) fuel (listed.set i1 true) ((d1, v) :: σ) w) : WH P n ops T (Chg G w0) (fuel + 1) listed σ w :=
  WH_one i1 hi1 hr (Z10 (o := f) hdl hp hv (Z31 (at_held hS h)))
end
end Go.Proofs.YteonnoijdnjpdaaDoor
