/-
  What is proved here: a statement of an owned row is taken out; programs without a statement.
-/
import Derived.Test.YtplcmbipeanjdaaDoorChg
import Derived.Laws.AppendOwn
namespace Go.Proofs.YtplcmbipeanjdaaDoor
set_option linter.unusedVariables false
set_option linter.unusedSimpArgs false
set_option linter.unnecessarySimpa false
open Go.RowKit

section
variable {P : Program} {σ : Env} {w : World} {d : Nat} {ty : TypeId} {pos : String} {af : Array Edge} {x y z : Operand}
/-- s[l:h] of a slice. -/
theorem q_slMidC {g : Option (Nat × Bool)} {t e k len cap l h : Nat} {A : Option Addr} {i j : Int} [TSl P t e k] (hx : ev σ x = some (.slice A len cap)) (hy : ev σ y = some (.int .i64 i)) (hz : ev σ z = some (.int .i64 j)) (hi : i = (l : Int)) (hj : j = (h : Int)) (hl : l ≤ h) (hh : h ≤ cap) :
    DoesQ P ⟨some d, .slice t x (some y) (some z) none, ty, pos, af, g⟩ σ w (.slice (if cap = l then A else A.map (·.add (l * k))) (h - l) (cap - l)) := ⟨fun w2 he => ⟨fun m c hf => by
  subst hi; subst hj
  have h1 : (l : Int) ≤ (h : Int) := by omega
  have h2 : ¬ h < l := by omega
  have h3 : (h : Int) ≤ (cap : Int) := by omega
  have h4 : ¬ cap < h := by omega
  simp [execOp, fits_ev hf hx, fits_ev hf hy, fits_ev hf hz, Instr.sliceAt, Instr.slice, run_underlying (TSl.und (P := P) (t := t) (e := e) (k := k)), Instr.sliceBounds, Instr.sliceBound, asIntOf, h1, h2, h3, h4, hl, hh, TSl.run_sizeOf (P := P) (t := t) (e := e) (k := k) inferInstance]⟩⟩
end
/-- The row without its statement k. -/
def drpL (l : Ss) (k : Nat) : Ss := (l.take k).app (l.drop (k + 1))
theorem drp_len {l : Ss} {k : Nat} (h : k < l.len) : (drpL l k).len = l.len - 1 := by
  unfold drpL
  rw [Ss.len_app, Ss.len_take k l (by omega), Ss.len_drop]
  omega
theorem drp_cnt (l : Ss) (k : Nat) : cntL (drpL l k) ≤ cntL l := by
  have h1 := cnt_take_drop k l
  have h2 : cntL (l.drop (k + 1)) ≤ cntL (l.drop k) := by
    by_cases h : k < l.len
    · obtain ⟨op, x, y, n, t, e, r, _, _, q3, q4⟩ := Ss.at_ h
      rw [q3, q4]
      simp only [cntL]
      omega
    · have : (l.drop (k + 1)).len = 0 := by rw [Ss.len_drop]; omega
      rw [Ss.len_zero this]
      simp [cntL]
  unfold drpL
  rw [cntL_app]
  omega
section
variable {P : Program} {w : World} {v : Value} {l : Ss} {F : List Nat} {t e ty bytes : Nat} {z : Value} {k : Nat}
/-- What is appended to an owned row with room is written there. -/
theorem app_room [TSl P t e 6] {i : TypeInfo} (hi : P.info? e = some i) (hsz : i.size = 6) {g n cap m c : Nat} {xs news : List Value} (hown : w.ownsRow 0 e 6 (.slice (some ⟨g, 0, none⟩) n cap) n xs) (ad : Addr) (hl : news.length = m * 6) (hnews : ∀ j u, news[j]? = some u → w.cell? (ad.add j) = some u) (h1 : ∀ u ∈ news, u.oneCell' = true) (hroom : n + m ≤ cap) :
    ∃ w', (∀ ty, (Builtin.append_ #[t, t] ty #[.slice (some ⟨g, 0, none⟩) n cap, .slice (some ad) m c]).run P w = .ok (.slice (some ⟨g, 0, none⟩) (n + m) cap) w') ∧
      w'.ownsRow 0 e 6 (.slice (some ⟨g, 0, none⟩) (n + m) cap) (n + m) (xs ++ news) ∧ w.grownBy w' (some g) := by
  have hlen : (xs ++ news).length = (n + m) * 6 := by rw [List.length_append, hown.1, hl, Nat.add_mul]
  rcases hown.2 with ⟨h0, _⟩ | ⟨g', cap', cur, hv, hbg, hg, hnc, hcm, hcs, htake⟩
  · cases h0
  · cases hv
    have hmul : (n + m) * 6 ≤ cap * 6 := Nat.mul_le_mul_right _ hroom
    have hfit : n * i.size + news.length ≤ cur.size := by rw [hl, hcs, hsz]; omega
    refine ⟨_, fun ty => run_append_room (P := P) w t ty e i (TSl.und (P := P) (t := t) (e := e) (k := 6)) hi g n cap cur hg ad m c news (by rw [hsz]; exact hl) hnews h1 hroom hfit, ⟨hlen, .inr ⟨g, cap, _, rfl, hbg, setRow_heap w g cur _ e _ hg, hroom, hcm, ?_, ?_⟩⟩, ⟨rfl, rfl, rfl, by simp, fun k _ hk => setRow_other w g k _ (fun e => hk (by simp [e]))⟩⟩
    · rw [hsz] at hfit
      simp only [hsz, List.size_toArray, List.length_append, List.length_take, List.length_drop, Array.length_toList]
      omega
    · simp only [hsz]
      rw [htake, ← hlen]
      exact List.take_left
/-- append(s[:k], s[k+1:]...) on an owned row. -/
theorem del_run [TSl P t e 6] [TE P e z 6 bytes] (h : RowS e w v l F) (hnd : F.Nodup) (hk : k < l.len) : ∃ g cap Fs Fd w', v = .slice (some ⟨g, 0, none⟩) l.len cap ∧ l.len ≤ cap ∧ F = g :: Fs ∧
    (∀ ty, (Builtin.append_ #[t, t] ty #[.slice (some ⟨g, 0, none⟩) k cap, .slice (if cap = k + 1 then some ⟨g, 0, none⟩ else (some (⟨g, 0, none⟩ : Addr)).map (·.add ((k + 1) * 6))) (l.len - (k + 1)) (cap - (k + 1))]).run P w = .ok (.slice (some ⟨g, 0, none⟩) (l.len - 1) cap) w') ∧
    RowS e w' (.slice (some ⟨g, 0, none⟩) (l.len - 1) cap) (drpL l k) (g :: Fd) ∧ Fd.Sublist Fs ∧ Chg [g] w w' := by
  obtain ⟨i, hi, hz, hsz, hb⟩ := TE.row (P := P) (e := e) (z := z) (k := 6) (bytes := bytes) inferInstance
  obtain ⟨xs, Fs, h1, h2, rfl⟩ := h
  obtain ⟨op, x, y, n, t', el, r, q1, q2, q3, q4⟩ := Ss.at_ hk
  obtain ⟨hl, ⟨rfl, h0⟩ | ⟨g, cap, cur, rfl, hB, hg, hnc, hm, hs, ht⟩⟩ := h1
  · omega
  rw [q1] at h2
  obtain ⟨xs1, xs2, F1, F2, rfl, rfl, a1, a2⟩ := StkS.split _ _ _ _ h2
  obtain ⟨vt, ve, Ft, Fe, Fr, xr, rfl, rfl, b1, b2, b3⟩ := StkS.cons_ a2
  have hl1 := StkS.length _ _ _ a1
  rw [q2] at hl1
  have hlr := StkS.length _ _ _ b3
  have hrl : r.len = l.len - (k + 1) := by rw [← q4, Ss.len_drop]
  have hpre : w.ownsRow 0 e 6 (.slice (some ⟨g, 0, none⟩) k cap) k xs1 := by
    refine ⟨hl1, .inr ⟨g, cap, cur, rfl, Nat.zero_le _, hg, by omega, hm, hs, ?_⟩⟩
    have : cur.toList.take (k * 6) = (cur.toList.take (l.len * 6)).take (k * 6) := by rw [List.take_take]; congr 1; omega
    rw [this, ht, List.take_left' hl1]
  have hcell : ∀ j u, xr[j]? = some u → w.cell? ⟨g, (k + 1) * 6 + j, none⟩ = some u := fun j u hu => by
    have hbk : Blk w g cur.toList e := by simpa [Blk] using hg
    refine hbk.cell ?_
    have hj : j < xr.length := (List.getElem?_eq_some_iff.1 hu).1
    have h1 : (cur.toList.take (l.len * 6))[(k + 1) * 6 + j]? = some u := by
      rw [ht, List.getElem?_append_right (by omega), show (k + 1) * 6 + j - xs1.length = j + 1 + 1 + 1 + 1 + 1 + 1 from by omega]
      simpa using hu
    rw [List.getElem?_take] at h1
    split at h1
    · exact h1
    · cases h1
  have hone : ∀ u ∈ xr, u.oneCell' = true := StkS.one _ _ _ b3
  have hmm : k + (l.len - (k + 1)) = l.len - 1 := by omega
  have hrun : ∃ w', (∀ ty, (Builtin.append_ #[t, t] ty #[.slice (some ⟨g, 0, none⟩) k cap, .slice (if cap = k + 1 then some ⟨g, 0, none⟩ else (some (⟨g, 0, none⟩ : Addr)).map (·.add ((k + 1) * 6))) (l.len - (k + 1)) (cap - (k + 1))]).run P w = .ok (.slice (some ⟨g, 0, none⟩) (l.len - 1) cap) w') ∧
      w'.ownsRow 0 e 6 (.slice (some ⟨g, 0, none⟩) (l.len - 1) cap) (l.len - 1) (xs1 ++ xr) ∧ w.grownBy w' (some g) := by
    have key : ∀ ad : Addr, (∀ j u, xr[j]? = some u → w.cell? (ad.add j) = some u) → ∃ w', (∀ ty, (Builtin.append_ #[t, t] ty #[.slice (some ⟨g, 0, none⟩) k cap, .slice (some ad) (l.len - (k + 1)) (cap - (k + 1))]).run P w = .ok (.slice (some ⟨g, 0, none⟩) (l.len - 1) cap) w') ∧
      w'.ownsRow 0 e 6 (.slice (some ⟨g, 0, none⟩) (l.len - 1) cap) (l.len - 1) (xs1 ++ xr) ∧ w.grownBy w' (some g) := by
      intro ad had
      obtain ⟨w', r1, r2, r3⟩ := app_room (P := P) (t := t) hi hsz (c := cap - (k + 1)) hpre ad (by rw [hlr, hrl]) had hone (show k + (l.len - (k + 1)) ≤ cap by omega)
      rw [hmm] at r1 r2
      exact ⟨w', r1, r2, r3⟩
    by_cases hc : cap = k + 1
    · rw [if_pos hc]
      refine key _ fun j u hu => ?_
      have := (List.getElem?_eq_some_iff.1 hu).1
      omega
    · rw [if_neg hc]
      simp only [Option.map_some, add_some, Nat.zero_add]
      exact key _ fun j u hu => by rw [add_some]; exact hcell j u hu
  obtain ⟨w', r1, r2, r3⟩ := hrun
  have hc := grown_chg r3
  have hgn : g ∉ F1 ++ (Ft ++ (Fe ++ Fr)) := by simpa [Value.ownBlock] using (List.nodup_cons.1 (by simpa [Value.ownBlock] using hnd : (g :: (F1 ++ (Ft ++ (Fe ++ Fr)))).Nodup)).1
  simp only [List.mem_append, not_or] at hgn
  refine ⟨g, cap, F1 ++ (Ft ++ (Fe ++ Fr)), F1 ++ Fr, w', rfl, hnc, rfl, r1, ⟨xs1 ++ xr, F1 ++ Fr, by rw [drp_len hk]; exact r2, ?_, rfl⟩, ?_, hc⟩
  · unfold drpL
    rw [q4]
    exact StkS.append _ _ _ _ _ _ (StkS.chg hc _ _ _ a1 (by simp; exact fun z hz e => hgn.1 (e ▸ hz))) (StkS.chg hc _ _ _ b3 (by simp; exact fun z hz e => hgn.2.2.2 (e ▸ hz)))
  · exact List.Sublist.append (List.Sublist.refl _) ((List.sublist_append_right _ _).trans (List.sublist_append_right _ _))
/-- clear(s[len:old]) on an owned row. -/
theorem clear_run {c' : Nat} [TSl P t e 6] [TE P e z 6 bytes] (hz1 : z.cells.toList.length = 6) (ho : ∀ u ∈ z.cells.toList, u.oneCell' = true) {g cap m : Nat} {Fd : List Nat} (h : RowS e w (.slice (some ⟨g, 0, none⟩) m cap) l (g :: Fd)) (hm : m = l.len) (hcap : m + 1 ≤ cap) (hgn : g ∉ Fd) :
    ∃ w', (∀ ty, (Builtin.clear_ #[t] ty #[.slice (some ⟨g, m * 6, none⟩) 1 c']).run P w = .ok (.tuple #[]) w') ∧ RowS e w' (.slice (some ⟨g, 0, none⟩) m cap) l (g :: Fd) ∧ Chg [g] w w' := by
  subst hm
  obtain ⟨xs, Fs, ⟨hl, ⟨h0, _⟩ | ⟨g', cap', cur, hv, hB, hg, hnc, hm, hs, ht⟩⟩, h2, hF⟩ := h
  · cases h0
  · cases hv
    have hFs : Fd = Fs := by simpa [Value.ownBlock] using hF
    subst hFs
    have hmul : (l.len + 1) * 6 ≤ cap * 6 := Nat.mul_le_mul_right 6 hcap
    have hst := run_storeCells_at P g (l.len * 6) e z.cells.toList 0 cur w hg (by rw [hz1, hs]; omega) ho
    simp only [Nat.add_zero] at hst
    have hzc : (Builtin.zeroCells z.cells 1).toList = z.cells.toList := by
      have := made_list z.cells 1 (by simpa using (show 0 < z.cells.toList.length by omega))
      unfold madeCells at this
      unfold Builtin.zeroCells
      rw [this]
      simp
    have hb : Blk w g cur.toList e := by simpa [Blk] using hg
    refine ⟨w.setRow g (List.take (l.len * 6) cur.toList ++ z.cells.toList ++ List.drop (l.len * 6 + z.cells.toList.length) cur.toList).toArray, fun ty => ?_, ?_, (only_setRow w g _).chg⟩
    · simp only [Builtin.clear_, Sem.run_bind, run_underlying (TSl.und (P := P) (t := t) (e := e) (k := 6)), Result.andThen_ok, TE.run_zero (P := P) (e := e) (z := z) (k := 6) (bytes := bytes) inferInstance]
      simp [hzc, hst, run_underlying (TSl.und (P := P) (t := t) (e := e) (k := 6)), TE.run_zero (P := P) (e := e) (z := z) (k := 6) (bytes := bytes) inferInstance]
    · refine ⟨xs, Fd, ⟨hl, .inr ⟨g, cap, _, rfl, Nat.zero_le _, setRow_heap w g cur _ e _ hg, hnc, hm, ?_, ?_⟩⟩, StkS.chg (only_setRow w g _).chg _ _ _ h2 (by simp; exact fun z hz e => hgn (e ▸ hz)), by simp [Value.ownBlock]⟩
      · have hz2 : z.cells.size = 6 := by simpa using hz1
        simp [hz2]
        omega
      · rw [List.append_assoc, List.take_left' (by simp; omega), ← ht]
end
section
variable {P : Program} {n : Nat} {ops : Array Oper} {Q : Exit → Act → World → Prop} {rest : List Oper} {σ : Env} {w w' : World} {v a b : Value}
variable {d : Nat} {ty : TypeId} {pos : String} {af : Array Edge} {x y s z u : Operand}
theorem WO_appRun {t : TypeId} (hs : ev σ s = some a) (hx : ev σ x = some b) (hr : ∀ ty, (Builtin.append_ #[t, t] ty #[a, b]).run P w = .ok v w') (h : WO P n ops Q rest ((d, v) :: σ) w') :
    WO P n ops Q (⟨some d, .call ⟨.builtin .append, #[s, x], #[t, t]⟩, ty, pos, af, none⟩ :: rest) σ w :=
  WO.value rfl ⟨fun _ c hf => by simp [execOp, resolve, invoke, builtin, fits_ev hf hs, fits_ev hf hx, hr]⟩ h
theorem WO_clearRun {t : TypeId} (hx : ev σ x = some b) (hr : ∀ ty, (Builtin.clear_ #[t] ty #[b]).run P w = .ok (.tuple #[]) w') (h : WO P n ops Q rest σ w') :
    WO P n ops Q (⟨none, .call ⟨.builtin .clear, #[x], #[t]⟩, ty, pos, af, none⟩ :: rest) σ w :=
  WO.value (v := .tuple #[]) rfl ⟨fun _ c hf => by simp [execOp, resolve, invoke, builtin, fits_ev hf hx, hr]⟩ h
/-- s[l:h:m] of a slice. -/
theorem q_sl3 {g : Option (Nat × Bool)} {t e k len cap l h m : Nat} {A : Option Addr} {i j p : Int} [TSl P t e k] (hx : ev σ x = some (.slice A len cap)) (hy : ev σ y = some (.int .i64 i)) (hz : ev σ z = some (.int .i64 j)) (hu : ev σ u = some (.int .i64 p)) (hi : i = (l : Int)) (hj : j = (h : Int)) (hp : p = (m : Int)) (hl : l ≤ h) (hh : h ≤ m) (hm : m ≤ cap) :
    DoesQ P ⟨some d, .slice t x (some y) (some z) (some u), ty, pos, af, g⟩ σ w (.slice (if m = l then A else A.map (·.add (l * k))) (h - l) (m - l)) := ⟨fun w2 he => ⟨fun m' c hf => by
  subst hi; subst hj; subst hp
  have h1 : (l : Int) ≤ (h : Int) := by omega
  have h2 : ¬ h < l := by omega
  have h3 : (h : Int) ≤ (m : Int) := by omega
  have h4 : ¬ m < h := by omega
  have h5 : (m : Int) ≤ (cap : Int) := by omega
  have h6 : ¬ cap < m := by omega
  simp [execOp, fits_ev hf hx, fits_ev hf hy, fits_ev hf hz, fits_ev hf hu, Instr.sliceAt, Instr.slice, run_underlying (TSl.und (P := P) (t := t) (e := e) (k := k)), Instr.sliceBounds, Instr.sliceBound, asIntOf, h1, h2, h3, h4, h5, h6, hl, hh, hm, TSl.run_sizeOf (P := P) (t := t) (e := e) (k := k) inferInstance]⟩⟩
end
/-- What DropStmt makes. -/
def drpR (tl : List Int) (l : Ss) (k : Int) : Option Ss := if validP tl l = true ∧ 0 ≤ k ∧ k ≤ (l.len : Int) - 1 then some (drpL l k.toNat) else none
theorem drpR_cnt (tl : List Int) (l : Ss) (k : Int) : cntL (chL (drpR tl l k)) ≤ cntL l := by
  unfold drpR chL
  split
  · exact drp_cnt l _
  · simp [cntL]
end Go.Proofs.YtplcmbipeanjdaaDoor
