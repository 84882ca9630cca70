/-
  What is proved here: two statements of a program are exchanged, by the program and by the reference.
-/
import Derived.Test.YtpmgfokcbgdegaaPut2
import Derived.Test.YtpmgfokcbgdegaaVars
namespace Go.Proofs.Ytpmgfokcbgdegaa
set_option linter.unusedVariables false
set_option linter.unusedSimpArgs false
set_option linter.unnecessarySimpa false
open Go.RowKit

def swpAt : Ss → Option Ss
  | .cons op x y n t e (.cons op' x' y' n' t' e' r) => if ¬ (op = 9 ∨ op = 10) ∧ ¬ (op' = 9 ∨ op' = 10) ∧ apartB (varsL op x y t e) (varsL op' x' y' t' e') = true then some (.cons op' x' y' n' t' e' (.cons op x y n t e r)) else none
  | _ => none
def swpR (tl : List Int) (l : Ss) (k : Int) : Option Ss := if validP tl l = true ∧ 0 ≤ k then (swpAt (l.drop k.toNat)).map (fun z => (l.take k.toNat).app z) else none
theorem swpR_cnt (tl : List Int) (l : Ss) (k : Int) : cntL (chL (swpR tl l k)) ≤ cntL l := by
  unfold swpR chL
  split
  · cases hd : l.drop k.toNat with
    | nil => simp [swpAt, cntL]
    | cons op x y n t e r =>
      cases r with
      | nil => simp [swpAt, cntL]
      | cons op' x' y' n' t' e' r =>
        have := cnt_take_drop k.toNat l
        rw [hd] at this
        simp only [swpAt]
        split
        · simp only [Option.map_some, Option.getD_some, cntL_app, cntL] at *
          omega
        · simp [cntL]
  · simp [cntL]
theorem swpR_none {tl : List Int} {l : Ss} {k : Int} (hyes : ¬ (validP tl l = true ∧ 0 ≤ k ∧ k ≤ (l.len : Int) - 2)) : swpR tl l k = none := by
  unfold swpR
  by_cases hv : validP tl l = true ∧ 0 ≤ k
  · rw [if_pos hv]
    have hd : (l.drop k.toNat).len ≤ 1 := by
      rw [Ss.len_drop]
      have : ¬ (k ≤ (l.len : Int) - 2) := fun h => hyes ⟨hv.1, hv.2, h⟩
      omega
    cases hq : l.drop k.toNat with
    | nil => rfl
    | cons op x y n t e r =>
      cases r with
      | nil => rfl
      | cons op' x' y' n' t' e' r' => rw [hq] at hd; simp [Ss.len] at hd
  · rw [if_neg hv]
theorem swpR_some {tl : List Int} {l : Ss} {i : Nat} {op x y n op' x' y' n' : Int} {t e r t' e' r' : Ss} (hv : validP tl l = true) (q3 : l.drop i = .cons op x y n t e r) (hr2 : r = .cons op' x' y' n' t' e' r') :
    swpR tl l (i : Int) = (if ¬ (op = 9 ∨ op = 10) ∧ ¬ (op' = 9 ∨ op' = 10) ∧ apartB (varsL op x y t e) (varsL op' x' y' t' e') = true then some ((l.take i).app (.cons op' x' y' n' t' e' (.cons op x y n t e r'))) else none) := by
  unfold swpR
  rw [if_pos ⟨hv, by omega⟩, Int.toNat_natCast, q3, hr2]
  simp only [swpAt]
  split <;> rfl
/-- Two statements are written over two others, one behind the other. -/
theorem put_two {cs cs1 cs2 p q : List Value} {i : Nat} (hp : p.length = 6) (hq : q.length = 6) (hl : i * 6 + 12 ≤ cs.length) (h1 : cs1 = cs.take (0 + i * 6) ++ p ++ cs.drop (0 + i * 6 + 6)) (h2 : cs2 = cs1.take (0 + (i + 1) * 6) ++ q ++ cs1.drop (0 + (i + 1) * 6 + 6)) :
    cs2.length = cs.length ∧ (∀ k, (k < i * 6 ∨ i * 6 + 12 ≤ k) → cs2[k]? = cs[k]?) ∧ (∀ (j : Nat) u, p[j]? = some u → cs2[i * 6 + j]? = some u) ∧ (∀ (j : Nat) u, q[j]? = some u → cs2[i * 6 + 6 + j]? = some u) := by
  have hl1 : cs1.length = cs.length := by subst h1; simp; omega
  have hl2 : cs2.length = cs1.length := by subst h2; simp; omega
  have g1 : ∀ k, cs1[k]? = if k < i * 6 then cs[k]? else if k < i * 6 + 6 then p[k - i * 6]? else cs[k]? := fun k => by
    subst h1
    have hlt : (cs.take (0 + i * 6)).length = i * 6 := by rw [List.length_take]; omega
    by_cases hk : k < i * 6
    · rw [if_pos hk, List.append_assoc, List.getElem?_append_left (by omega), List.getElem?_take, if_pos (by omega)]
    · rw [if_neg hk]
      by_cases hk2 : k < i * 6 + 6
      · rw [if_pos hk2, List.append_assoc, List.getElem?_append_right (by omega), hlt, List.getElem?_append_left (by omega)]
      · rw [if_neg hk2, List.getElem?_append_right (by simp; omega), List.getElem?_drop]
        congr 1
        simp
        omega
  have g2 : ∀ k, cs2[k]? = if k < i * 6 + 6 then cs1[k]? else if k < i * 6 + 12 then q[k - (i * 6 + 6)]? else cs1[k]? := fun k => by
    subst h2
    have hlt : (cs1.take (0 + (i + 1) * 6)).length = i * 6 + 6 := by rw [List.length_take]; omega
    by_cases hk : k < i * 6 + 6
    · rw [if_pos hk, List.append_assoc, List.getElem?_append_left (by omega), List.getElem?_take, if_pos (by omega)]
    · rw [if_neg hk]
      by_cases hk2 : k < i * 6 + 12
      · rw [if_pos hk2, List.append_assoc, List.getElem?_append_right (by omega), hlt, List.getElem?_append_left (by omega)]
      · rw [if_neg hk2, List.getElem?_append_right (by simp; omega), List.getElem?_drop]
        congr 1
        simp
        omega
  refine ⟨by omega, fun k hk => ?_, fun j u hu => ?_, fun j u hu => ?_⟩
  · rw [g2, g1]
    rcases hk with hk | hk
    · rw [if_pos (by omega), if_pos hk]
    · rw [if_neg (by omega), if_neg (by omega), if_neg (by omega), if_neg (by omega)]
  · have hj : j < 6 := by have := (List.getElem?_eq_some_iff.1 hu).1; omega
    rw [g2, g1, if_pos (by omega), if_neg (by omega), if_pos (by omega), show i * 6 + j - i * 6 = j from by omega]
    exact hu
  · have hj : j < 6 := by have := (List.getElem?_eq_some_iff.1 hu).1; omega
    rw [g2, if_neg (by omega), if_pos (by omega), show i * 6 + 6 + j - (i * 6 + 6) = j from by omega]
    exact hu
theorem perm_swap {F1 A B C D F2 : List Nat} {g : Nat} {Ft : List Nat} (h : (Ft ++ g :: (F1 ++ (A ++ (B ++ (C ++ (D ++ F2)))))).Nodup) : (Ft ++ g :: (F1 ++ (C ++ (D ++ (A ++ (B ++ F2)))))).Nodup := by
  refine List.Perm.nodup ?_ h
  refine List.Perm.append_left _ (List.Perm.cons _ (List.Perm.append_left _ ?_))
  have h3 : ((A ++ B) ++ (C ++ D) ++ F2).Perm ((C ++ D) ++ (A ++ B) ++ F2) := List.Perm.append_right _ List.perm_append_comm
  simpa using h3
theorem mem_swap {F1 A B C D F2 : List Nat} {g z : Nat} {Ft : List Nat} (h : z ∈ Ft ++ g :: (F1 ++ (C ++ (D ++ (A ++ (B ++ F2)))))) : z ∈ Ft ++ g :: (F1 ++ (A ++ (B ++ (C ++ (D ++ F2))))) := by
  simp only [List.mem_append, List.mem_cons] at h ⊢
  rcases h with h | h | h | h | h | h | h | h <;> simp [h]
/-- What stands behind the exchange. -/
def SwIn (e : TypeId) (v : Value) (l : Ss) (g : Nat) (Fs : List Nat) (w w' : World) : Prop := RowS e w' v l (g :: Fs) ∧ Chg [g] w w'
theorem SwapStmts_ret (tv bv : Value) (tl : List Int) (l : Ss) (F F2 : List Nat) (k : Int) (w : World) (ht : IntF w tv tl F) (hb : StS w bv l F2) (hk : -9223372036854775808 ≤ k ∧ k ≤ 9223372036854775807) (hn : tl.length ≤ 1048576) (hn2 : cntL l ≤ 1048576) :
    Ret Try.prog 16 [prV tv bv, .int .i64 k] w (PrO 62 tl (swpR tl l k) w) := by
  obtain ⟨A, c, rfl, hl, hlc⟩ := hb.slice
  unfold maxI at hl
  have hcl := len_le_cntL l
  refine enter Try.func16 rfl Try.ntmps16 rfl rfl ?_
  refine Z43 (Z44 (WO_box rfl fun w1 hs e1 z1 => WO_alloc fun w2 hr e2 z2 => ?_))
  replace hs : Blk w2 w.heap.size [tv, .slice A l.len c] _ := Blk.ext hs e2
  replace hr : Blk w2 w1.heap.size [.slice none 0 0, .slice none 0 0] _ := hr
  have e0 := e1.trans e2
  have s1 := e1.size_le
  have s2 := hr.lt
  refine goS ?_
  by_cases hyes : validP tl l = true ∧ 0 ≤ k ∧ k ≤ (l.len : Int) - 2
  · have hpair : (validP tl l && decide (0 ≤ k ∧ k ≤ (l.len : Int) - 2)) = true := by simp [hyes.1]; omega
    obtain ⟨hv, hk0, hk2⟩ := hyes
    obtain ⟨i, rfl⟩ := Int.eq_ofNat_of_zero_le hk0
    obtain ⟨op, x, y, n, t, e, r, q1, q2, q3, q4⟩ := Ss.at_ (l := l) (k := i) (by omega)
    obtain ⟨op', x', y', n', t', e', r', p1, p2, p3, p4⟩ := Ss.at_ (l := l) (k := i + 1) (by omega)
    have hr2 : r = .cons op' x' y' n' t' e' r' := by rw [← q4, p3]
    have hsw := swpR_some hv q3 hr2
    obtain ⟨b, o, vt, ve, Ft, Fe, rfl, _, hc1, hT, hE⟩ := hb.one_ q1
    obtain ⟨b', o', vt', ve', Ft', Fe', hA', _, hc2, hT', hE'⟩ := hb.one_ p1
    cases hA'
    rw [q2] at hc1
    rw [p2] at hc2
    have hop1 := cell_ext (hc1 0 _ rfl) e0
    have hop2 := cell_ext (hc2 0 _ rfl) e0
    refine Z54 (by kernel_rfl) (by kernel_rfl) ?_
    refine Z55 (q_loadS (cs := [tv, .slice (some ⟨b, o, none⟩) l.len c]) rfl rfl (fun j u hu => by rw [Nat.zero_add]; exact hs.cell hu)) ?_
    repeat' (first | refine Z55 (Z56 rfl) ?_ | (refine Z57 ?_; first | refine Z58 rfl rfl (by decide) ?_ | refine Z59 rfl rfl (by decide) ?_ | refine Z60 rfl rfl ?_ | ((refine Z61 rfl rfl (fun c' hc' => ?_)); cases c' <;> (try simp only [decide_eq_true_eq, decide_eq_false_iff_not, beq_iff_eq, beq_eq_false_iff_ne, bne_iff_ne, bne_eq_false_iff_eq, ne_eq, gt_iff_lt, ge_iff_le, Int.not_lt, Int.not_le, Bool.not_eq_true', Bool.not_eq_false', Bool.not_true, Bool.not_false, reduceCtorEq, Decidable.not_not, not_true_eq_false, Bool.true_eq_false, Bool.false_eq_true] at hc') <;> (try (exfalso; omega)))) | (refine Z62 ?_; first | refine Z55 (Z63 rfl rfl) ?_ | refine Z55 (Z64 rfl rfl) ?_) | (refine Z65 ?_; first | refine Z55 (Z66 rfl (by assumption) (by rfl)) ?_ | refine Z55 (Z67 rfl (by assumption)) ?_) | (refine Z68 ?_; refine Z55 (Z69 rfl rfl rfl (by omega)) ?_) | (refine Z70 ?_; first | refine Z55 (Z14 rfl (by decide) rfl) ?_ | refine Z55 (Z15 rfl (by decide) rfl) ?_) | (refine Z71 ?_; first | refine Z55 (Z72 rfl) ?_ | refine Z55 (Z73 rfl) ?_) | (refine Z74 ?_; first | refine Z55 (Z75 rfl rfl (by omega)) ?_ | refine Z55 (Z76 rfl rfl (by omega)) ?_ | refine Z55 (Z77 rfl rfl (by omega)) ?_ | refine Z55 (Z78 rfl rfl (by omega) (by omega)) ?_ | refine Z55 (Z79 rfl rfl (by omega) (by omega) (by omega)) ?_ | refine Z55 (Z25 rfl rfl) ?_ | refine Z55 (Z26 rfl rfl) ?_) | (refine Z80 ?_; refine Z55 (Z28 rfl (Z53 ⟨by omega, by omega⟩)) ?_) | refine Z81 fun w' hw' => ?_)
    refine WQ_call rfl (fun w' ew => hasPair_ret tv _ tl l F F2 (i : Int) w' (ht.ext (e0.trans ew)) (hb.ext (e0.trans ew))) ?_
    rw [hpair]
    repeat' (first | refine Z55 (Z56 rfl) ?_ | (refine Z57 ?_; first | refine Z58 rfl rfl (by decide) ?_ | refine Z59 rfl rfl (by decide) ?_ | refine Z60 rfl rfl ?_ | ((refine Z61 rfl rfl (fun c' hc' => ?_)); cases c' <;> (try simp only [decide_eq_true_eq, decide_eq_false_iff_not, beq_iff_eq, beq_eq_false_iff_ne, bne_iff_ne, bne_eq_false_iff_eq, ne_eq, gt_iff_lt, ge_iff_le, Int.not_lt, Int.not_le, Bool.not_eq_true', Bool.not_eq_false', Bool.not_true, Bool.not_false, reduceCtorEq, Decidable.not_not, not_true_eq_false, Bool.true_eq_false, Bool.false_eq_true] at hc') <;> (try (exfalso; omega)))) | (refine Z62 ?_; first | refine Z55 (Z63 rfl rfl) ?_ | refine Z55 (Z64 rfl rfl) ?_) | (refine Z65 ?_; first | refine Z55 (Z66 rfl (by assumption) (by rfl)) ?_ | refine Z55 (Z67 rfl (by assumption)) ?_) | (refine Z68 ?_; refine Z55 (Z69 rfl rfl rfl (by omega)) ?_) | (refine Z70 ?_; first | refine Z55 (Z14 rfl (by decide) rfl) ?_ | refine Z55 (Z15 rfl (by decide) rfl) ?_) | (refine Z71 ?_; first | refine Z55 (Z72 rfl) ?_ | refine Z55 (Z73 rfl) ?_) | (refine Z74 ?_; first | refine Z55 (Z75 rfl rfl (by omega)) ?_ | refine Z55 (Z76 rfl rfl (by omega)) ?_ | refine Z55 (Z77 rfl rfl (by omega)) ?_ | refine Z55 (Z78 rfl rfl (by omega) (by omega)) ?_ | refine Z55 (Z79 rfl rfl (by omega) (by omega) (by omega)) ?_ | refine Z55 (Z25 rfl rfl) ?_ | refine Z55 (Z26 rfl rfl) ?_) | (refine Z80 ?_; refine Z55 (Z28 rfl (Z53 ⟨by omega, by omega⟩)) ?_) | refine Z81 fun w' hw' => ?_)
    refine WQ_call rfl (fun w' ew => (isBranch_ret op w').mono (by rintro u w'' ⟨rfl, rfl⟩; exact ⟨rfl, Ext.refl _⟩)) ?_
    by_cases hb1 : op = 9 ∨ op = 10
    · rw [decide_eq_true hb1]
      rw [if_neg (fun h => h.1 hb1)] at hsw
      repeat' (first | refine Z55 (Z56 rfl) ?_ | (refine Z57 ?_; first | refine Z58 rfl rfl (by decide) ?_ | refine Z59 rfl rfl (by decide) ?_ | refine Z60 rfl rfl ?_ | ((refine Z61 rfl rfl (fun c' hc' => ?_)); cases c' <;> (try simp only [decide_eq_true_eq, decide_eq_false_iff_not, beq_iff_eq, beq_eq_false_iff_ne, bne_iff_ne, bne_eq_false_iff_eq, ne_eq, gt_iff_lt, ge_iff_le, Int.not_lt, Int.not_le, Bool.not_eq_true', Bool.not_eq_false', Bool.not_true, Bool.not_false, reduceCtorEq, Decidable.not_not, not_true_eq_false, Bool.true_eq_false, Bool.false_eq_true] at hc') <;> (try (exfalso; omega)))) | (refine Z62 ?_; first | refine Z55 (Z63 rfl rfl) ?_ | refine Z55 (Z64 rfl rfl) ?_) | (refine Z65 ?_; first | refine Z55 (Z66 rfl (by assumption) (by rfl)) ?_ | refine Z55 (Z67 rfl (by assumption)) ?_) | (refine Z68 ?_; refine Z55 (Z69 rfl rfl rfl (by omega)) ?_) | (refine Z70 ?_; first | refine Z55 (Z14 rfl (by decide) rfl) ?_ | refine Z55 (Z15 rfl (by decide) rfl) ?_) | (refine Z71 ?_; first | refine Z55 (Z72 rfl) ?_ | refine Z55 (Z73 rfl) ?_) | (refine Z74 ?_; first | refine Z55 (Z75 rfl rfl (by omega)) ?_ | refine Z55 (Z76 rfl rfl (by omega)) ?_ | refine Z55 (Z77 rfl rfl (by omega)) ?_ | refine Z55 (Z78 rfl rfl (by omega) (by omega)) ?_ | refine Z55 (Z79 rfl rfl (by omega) (by omega) (by omega)) ?_ | refine Z55 (Z25 rfl rfl) ?_ | refine Z55 (Z26 rfl rfl) ?_) | (refine Z80 ?_; refine Z55 (Z28 rfl (Z53 ⟨by omega, by omega⟩)) ?_) | refine Z81 fun w' hw' => ?_)
      replace e0 := e0.trans hw'
      replace hr := hr.ext hw'
      refine goS ?_
      refine WO_storeS (k := 2) (vs := [.slice none 0 0, .slice none 0 0]) rfl rfl rfl (by intro v hv; simp at hv; subst hv; rfl) hr (by decide) fun wz hz oz => ?_
      replace hz : Blk wz w1.heap.size [.slice none 0 0, .slice none 0 0] _ := hz
      refine goS ?_
      exact at_ret2G rfl (.cell inferInstance rfl hz rfl) (.tmp rfl) (by rw [hsw]; exact PrO.none_ (Ext.only e0 oz s1))
    · rw [decide_eq_false hb1]
      repeat' (first | refine Z55 (Z56 rfl) ?_ | (refine Z57 ?_; first | refine Z58 rfl rfl (by decide) ?_ | refine Z59 rfl rfl (by decide) ?_ | refine Z60 rfl rfl ?_ | ((refine Z61 rfl rfl (fun c' hc' => ?_)); cases c' <;> (try simp only [decide_eq_true_eq, decide_eq_false_iff_not, beq_iff_eq, beq_eq_false_iff_ne, bne_iff_ne, bne_eq_false_iff_eq, ne_eq, gt_iff_lt, ge_iff_le, Int.not_lt, Int.not_le, Bool.not_eq_true', Bool.not_eq_false', Bool.not_true, Bool.not_false, reduceCtorEq, Decidable.not_not, not_true_eq_false, Bool.true_eq_false, Bool.false_eq_true] at hc') <;> (try (exfalso; omega)))) | (refine Z62 ?_; first | refine Z55 (Z63 rfl rfl) ?_ | refine Z55 (Z64 rfl rfl) ?_) | (refine Z65 ?_; first | refine Z55 (Z66 rfl (by assumption) (by rfl)) ?_ | refine Z55 (Z67 rfl (by assumption)) ?_) | (refine Z68 ?_; refine Z55 (Z69 rfl rfl rfl (by omega)) ?_) | (refine Z70 ?_; first | refine Z55 (Z14 rfl (by decide) rfl) ?_ | refine Z55 (Z15 rfl (by decide) rfl) ?_) | (refine Z71 ?_; first | refine Z55 (Z72 rfl) ?_ | refine Z55 (Z73 rfl) ?_) | (refine Z74 ?_; first | refine Z55 (Z75 rfl rfl (by omega)) ?_ | refine Z55 (Z76 rfl rfl (by omega)) ?_ | refine Z55 (Z77 rfl rfl (by omega)) ?_ | refine Z55 (Z78 rfl rfl (by omega) (by omega)) ?_ | refine Z55 (Z79 rfl rfl (by omega) (by omega) (by omega)) ?_ | refine Z55 (Z25 rfl rfl) ?_ | refine Z55 (Z26 rfl rfl) ?_) | (refine Z80 ?_; refine Z55 (Z28 rfl (Z53 ⟨by omega, by omega⟩)) ?_) | refine Z81 fun w' hw' => ?_)
      refine Z55 (Z69 (j := i + 1) rfl rfl (by omega) (by omega)) ?_
      repeat' (first | refine Z55 (Z56 rfl) ?_ | (refine Z57 ?_; first | refine Z58 rfl rfl (by decide) ?_ | refine Z59 rfl rfl (by decide) ?_ | refine Z60 rfl rfl ?_ | ((refine Z61 rfl rfl (fun c' hc' => ?_)); cases c' <;> (try simp only [decide_eq_true_eq, decide_eq_false_iff_not, beq_iff_eq, beq_eq_false_iff_ne, bne_iff_ne, bne_eq_false_iff_eq, ne_eq, gt_iff_lt, ge_iff_le, Int.not_lt, Int.not_le, Bool.not_eq_true', Bool.not_eq_false', Bool.not_true, Bool.not_false, reduceCtorEq, Decidable.not_not, not_true_eq_false, Bool.true_eq_false, Bool.false_eq_true] at hc') <;> (try (exfalso; omega)))) | (refine Z62 ?_; first | refine Z55 (Z63 rfl rfl) ?_ | refine Z55 (Z64 rfl rfl) ?_) | (refine Z65 ?_; first | refine Z55 (Z66 rfl (by assumption) (by rfl)) ?_ | refine Z55 (Z67 rfl (by assumption)) ?_) | (refine Z68 ?_; refine Z55 (Z69 rfl rfl rfl (by omega)) ?_) | (refine Z70 ?_; first | refine Z55 (Z14 rfl (by decide) rfl) ?_ | refine Z55 (Z15 rfl (by decide) rfl) ?_) | (refine Z71 ?_; first | refine Z55 (Z72 rfl) ?_ | refine Z55 (Z73 rfl) ?_) | (refine Z74 ?_; first | refine Z55 (Z75 rfl rfl (by omega)) ?_ | refine Z55 (Z76 rfl rfl (by omega)) ?_ | refine Z55 (Z77 rfl rfl (by omega)) ?_ | refine Z55 (Z78 rfl rfl (by omega) (by omega)) ?_ | refine Z55 (Z79 rfl rfl (by omega) (by omega) (by omega)) ?_ | refine Z55 (Z25 rfl rfl) ?_ | refine Z55 (Z26 rfl rfl) ?_) | (refine Z80 ?_; refine Z55 (Z28 rfl (Z53 ⟨by omega, by omega⟩)) ?_) | refine Z81 fun w' hw' => ?_)
      refine WQ_call rfl (fun w' ew => (isBranch_ret op' w').mono (by rintro u w'' ⟨rfl, rfl⟩; exact ⟨rfl, Ext.refl _⟩)) ?_
      by_cases hb2 : op' = 9 ∨ op' = 10
      · rw [decide_eq_true hb2]
        rw [if_neg (fun h => h.2.1 hb2)] at hsw
        repeat' (first | refine Z55 (Z56 rfl) ?_ | (refine Z57 ?_; first | refine Z58 rfl rfl (by decide) ?_ | refine Z59 rfl rfl (by decide) ?_ | refine Z60 rfl rfl ?_ | ((refine Z61 rfl rfl (fun c' hc' => ?_)); cases c' <;> (try simp only [decide_eq_true_eq, decide_eq_false_iff_not, beq_iff_eq, beq_eq_false_iff_ne, bne_iff_ne, bne_eq_false_iff_eq, ne_eq, gt_iff_lt, ge_iff_le, Int.not_lt, Int.not_le, Bool.not_eq_true', Bool.not_eq_false', Bool.not_true, Bool.not_false, reduceCtorEq, Decidable.not_not, not_true_eq_false, Bool.true_eq_false, Bool.false_eq_true] at hc') <;> (try (exfalso; omega)))) | (refine Z62 ?_; first | refine Z55 (Z63 rfl rfl) ?_ | refine Z55 (Z64 rfl rfl) ?_) | (refine Z65 ?_; first | refine Z55 (Z66 rfl (by assumption) (by rfl)) ?_ | refine Z55 (Z67 rfl (by assumption)) ?_) | (refine Z68 ?_; refine Z55 (Z69 rfl rfl rfl (by omega)) ?_) | (refine Z70 ?_; first | refine Z55 (Z14 rfl (by decide) rfl) ?_ | refine Z55 (Z15 rfl (by decide) rfl) ?_) | (refine Z71 ?_; first | refine Z55 (Z72 rfl) ?_ | refine Z55 (Z73 rfl) ?_) | (refine Z74 ?_; first | refine Z55 (Z75 rfl rfl (by omega)) ?_ | refine Z55 (Z76 rfl rfl (by omega)) ?_ | refine Z55 (Z77 rfl rfl (by omega)) ?_ | refine Z55 (Z78 rfl rfl (by omega) (by omega)) ?_ | refine Z55 (Z79 rfl rfl (by omega) (by omega) (by omega)) ?_ | refine Z55 (Z25 rfl rfl) ?_ | refine Z55 (Z26 rfl rfl) ?_) | (refine Z80 ?_; refine Z55 (Z28 rfl (Z53 ⟨by omega, by omega⟩)) ?_) | refine Z81 fun w' hw' => ?_)
        replace e0 := e0.trans hw'
        replace hr := hr.ext hw'
        refine goS ?_
        refine WO_storeS (k := 2) (vs := [.slice none 0 0, .slice none 0 0]) rfl rfl rfl (by intro v hv; simp at hv; subst hv; rfl) hr (by decide) fun wz hz oz => ?_
        replace hz : Blk wz w1.heap.size [.slice none 0 0, .slice none 0 0] _ := hz
        refine goS ?_
        exact at_ret2G rfl (.cell inferInstance rfl hz rfl) (.tmp rfl) (by rw [hsw]; exact PrO.none_ (Ext.only e0 oz s1))
      · rw [decide_eq_false hb2]
        repeat' (first | refine Z55 (Z56 rfl) ?_ | (refine Z57 ?_; first | refine Z58 rfl rfl (by decide) ?_ | refine Z59 rfl rfl (by decide) ?_ | refine Z60 rfl rfl ?_ | ((refine Z61 rfl rfl (fun c' hc' => ?_)); cases c' <;> (try simp only [decide_eq_true_eq, decide_eq_false_iff_not, beq_iff_eq, beq_eq_false_iff_ne, bne_iff_ne, bne_eq_false_iff_eq, ne_eq, gt_iff_lt, ge_iff_le, Int.not_lt, Int.not_le, Bool.not_eq_true', Bool.not_eq_false', Bool.not_true, Bool.not_false, reduceCtorEq, Decidable.not_not, not_true_eq_false, Bool.true_eq_false, Bool.false_eq_true] at hc') <;> (try (exfalso; omega)))) | (refine Z62 ?_; first | refine Z55 (Z63 rfl rfl) ?_ | refine Z55 (Z64 rfl rfl) ?_) | (refine Z65 ?_; first | refine Z55 (Z66 rfl (by assumption) (by rfl)) ?_ | refine Z55 (Z67 rfl (by assumption)) ?_) | (refine Z68 ?_; refine Z55 (Z69 rfl rfl rfl (by omega)) ?_) | (refine Z70 ?_; first | refine Z55 (Z14 rfl (by decide) rfl) ?_ | refine Z55 (Z15 rfl (by decide) rfl) ?_) | (refine Z71 ?_; first | refine Z55 (Z72 rfl) ?_ | refine Z55 (Z73 rfl) ?_) | (refine Z74 ?_; first | refine Z55 (Z75 rfl rfl (by omega)) ?_ | refine Z55 (Z76 rfl rfl (by omega)) ?_ | refine Z55 (Z77 rfl rfl (by omega)) ?_ | refine Z55 (Z78 rfl rfl (by omega) (by omega)) ?_ | refine Z55 (Z79 rfl rfl (by omega) (by omega) (by omega)) ?_ | refine Z55 (Z25 rfl rfl) ?_ | refine Z55 (Z26 rfl rfl) ?_) | (refine Z80 ?_; refine Z55 (Z28 rfl (Z53 ⟨by omega, by omega⟩)) ?_) | refine Z81 fun w' hw' => ?_)
        refine Z55 (q_loadS (cs := [.int .i64 op, .int .i64 x, .int .i64 y, .int .i64 n, vt, ve]) rfl rfl (fun j u hu => cell_ext (hc1 j u hu) e0)) ?_
        repeat' (first | refine Z55 (Z56 rfl) ?_ | (refine Z57 ?_; first | refine Z58 rfl rfl (by decide) ?_ | refine Z59 rfl rfl (by decide) ?_ | refine Z60 rfl rfl ?_ | ((refine Z61 rfl rfl (fun c' hc' => ?_)); cases c' <;> (try simp only [decide_eq_true_eq, decide_eq_false_iff_not, beq_iff_eq, beq_eq_false_iff_ne, bne_iff_ne, bne_eq_false_iff_eq, ne_eq, gt_iff_lt, ge_iff_le, Int.not_lt, Int.not_le, Bool.not_eq_true', Bool.not_eq_false', Bool.not_true, Bool.not_false, reduceCtorEq, Decidable.not_not, not_true_eq_false, Bool.true_eq_false, Bool.false_eq_true] at hc') <;> (try (exfalso; omega)))) | (refine Z62 ?_; first | refine Z55 (Z63 rfl rfl) ?_ | refine Z55 (Z64 rfl rfl) ?_) | (refine Z65 ?_; first | refine Z55 (Z66 rfl (by assumption) (by rfl)) ?_ | refine Z55 (Z67 rfl (by assumption)) ?_) | (refine Z68 ?_; refine Z55 (Z69 rfl rfl rfl (by omega)) ?_) | (refine Z70 ?_; first | refine Z55 (Z14 rfl (by decide) rfl) ?_ | refine Z55 (Z15 rfl (by decide) rfl) ?_) | (refine Z71 ?_; first | refine Z55 (Z72 rfl) ?_ | refine Z55 (Z73 rfl) ?_) | (refine Z74 ?_; first | refine Z55 (Z75 rfl rfl (by omega)) ?_ | refine Z55 (Z76 rfl rfl (by omega)) ?_ | refine Z55 (Z77 rfl rfl (by omega)) ?_ | refine Z55 (Z78 rfl rfl (by omega) (by omega)) ?_ | refine Z55 (Z79 rfl rfl (by omega) (by omega) (by omega)) ?_ | refine Z55 (Z25 rfl rfl) ?_ | refine Z55 (Z26 rfl rfl) ?_) | (refine Z80 ?_; refine Z55 (Z28 rfl (Z53 ⟨by omega, by omega⟩)) ?_) | refine Z81 fun w' hw' => ?_)
        refine Z55 (Z69 (j := i + 1) rfl rfl (by omega) (by omega)) ?_
        repeat' (first | refine Z55 (Z56 rfl) ?_ | (refine Z57 ?_; first | refine Z58 rfl rfl (by decide) ?_ | refine Z59 rfl rfl (by decide) ?_ | refine Z60 rfl rfl ?_ | ((refine Z61 rfl rfl (fun c' hc' => ?_)); cases c' <;> (try simp only [decide_eq_true_eq, decide_eq_false_iff_not, beq_iff_eq, beq_eq_false_iff_ne, bne_iff_ne, bne_eq_false_iff_eq, ne_eq, gt_iff_lt, ge_iff_le, Int.not_lt, Int.not_le, Bool.not_eq_true', Bool.not_eq_false', Bool.not_true, Bool.not_false, reduceCtorEq, Decidable.not_not, not_true_eq_false, Bool.true_eq_false, Bool.false_eq_true] at hc') <;> (try (exfalso; omega)))) | (refine Z62 ?_; first | refine Z55 (Z63 rfl rfl) ?_ | refine Z55 (Z64 rfl rfl) ?_) | (refine Z65 ?_; first | refine Z55 (Z66 rfl (by assumption) (by rfl)) ?_ | refine Z55 (Z67 rfl (by assumption)) ?_) | (refine Z68 ?_; refine Z55 (Z69 rfl rfl rfl (by omega)) ?_) | (refine Z70 ?_; first | refine Z55 (Z14 rfl (by decide) rfl) ?_ | refine Z55 (Z15 rfl (by decide) rfl) ?_) | (refine Z71 ?_; first | refine Z55 (Z72 rfl) ?_ | refine Z55 (Z73 rfl) ?_) | (refine Z74 ?_; first | refine Z55 (Z75 rfl rfl (by omega)) ?_ | refine Z55 (Z76 rfl rfl (by omega)) ?_ | refine Z55 (Z77 rfl rfl (by omega)) ?_ | refine Z55 (Z78 rfl rfl (by omega) (by omega)) ?_ | refine Z55 (Z79 rfl rfl (by omega) (by omega) (by omega)) ?_ | refine Z55 (Z25 rfl rfl) ?_ | refine Z55 (Z26 rfl rfl) ?_) | (refine Z80 ?_; refine Z55 (Z28 rfl (Z53 ⟨by omega, by omega⟩)) ?_) | refine Z81 fun w' hw' => ?_)
        refine Z55 (q_loadS (cs := [.int .i64 op', .int .i64 x', .int .i64 y', .int .i64 n', vt', ve']) rfl rfl (fun j u hu => cell_ext (hc2 j u hu) e0)) ?_
        repeat' (first | refine Z55 (Z56 rfl) ?_ | (refine Z57 ?_; first | refine Z58 rfl rfl (by decide) ?_ | refine Z59 rfl rfl (by decide) ?_ | refine Z60 rfl rfl ?_ | ((refine Z61 rfl rfl (fun c' hc' => ?_)); cases c' <;> (try simp only [decide_eq_true_eq, decide_eq_false_iff_not, beq_iff_eq, beq_eq_false_iff_ne, bne_iff_ne, bne_eq_false_iff_eq, ne_eq, gt_iff_lt, ge_iff_le, Int.not_lt, Int.not_le, Bool.not_eq_true', Bool.not_eq_false', Bool.not_true, Bool.not_false, reduceCtorEq, Decidable.not_not, not_true_eq_false, Bool.true_eq_false, Bool.false_eq_true] at hc') <;> (try (exfalso; omega)))) | (refine Z62 ?_; first | refine Z55 (Z63 rfl rfl) ?_ | refine Z55 (Z64 rfl rfl) ?_) | (refine Z65 ?_; first | refine Z55 (Z66 rfl (by assumption) (by rfl)) ?_ | refine Z55 (Z67 rfl (by assumption)) ?_) | (refine Z68 ?_; refine Z55 (Z69 rfl rfl rfl (by omega)) ?_) | (refine Z70 ?_; first | refine Z55 (Z14 rfl (by decide) rfl) ?_ | refine Z55 (Z15 rfl (by decide) rfl) ?_) | (refine Z71 ?_; first | refine Z55 (Z72 rfl) ?_ | refine Z55 (Z73 rfl) ?_) | (refine Z74 ?_; first | refine Z55 (Z75 rfl rfl (by omega)) ?_ | refine Z55 (Z76 rfl rfl (by omega)) ?_ | refine Z55 (Z77 rfl rfl (by omega)) ?_ | refine Z55 (Z78 rfl rfl (by omega) (by omega)) ?_ | refine Z55 (Z79 rfl rfl (by omega) (by omega) (by omega)) ?_ | refine Z55 (Z25 rfl rfl) ?_ | refine Z55 (Z26 rfl rfl) ?_) | (refine Z80 ?_; refine Z55 (Z28 rfl (Z53 ⟨by omega, by omega⟩)) ?_) | refine Z81 fun w' hw' => ?_)
        refine WQ_call rfl (fun w' ew => VarsApart_ret op x y n t e vt ve Ft Fe op' x' y' n' t' e' vt' ve' Ft' Fe' w' (hT.ext (e0.trans ew)) (hE.ext (e0.trans ew)) (hT'.ext (e0.trans ew)) (hE'.ext (e0.trans ew))) ?_
        cases hap : apartB (varsL op x y t e) (varsL op' x' y' t' e')
        · rw [if_neg (fun h => by rw [hap] at h; cases h.2.2)] at hsw
          repeat' (first | refine Z55 (Z56 rfl) ?_ | (refine Z57 ?_; first | refine Z58 rfl rfl (by decide) ?_ | refine Z59 rfl rfl (by decide) ?_ | refine Z60 rfl rfl ?_ | ((refine Z61 rfl rfl (fun c' hc' => ?_)); cases c' <;> (try simp only [decide_eq_true_eq, decide_eq_false_iff_not, beq_iff_eq, beq_eq_false_iff_ne, bne_iff_ne, bne_eq_false_iff_eq, ne_eq, gt_iff_lt, ge_iff_le, Int.not_lt, Int.not_le, Bool.not_eq_true', Bool.not_eq_false', Bool.not_true, Bool.not_false, reduceCtorEq, Decidable.not_not, not_true_eq_false, Bool.true_eq_false, Bool.false_eq_true] at hc') <;> (try (exfalso; omega)))) | (refine Z62 ?_; first | refine Z55 (Z63 rfl rfl) ?_ | refine Z55 (Z64 rfl rfl) ?_) | (refine Z65 ?_; first | refine Z55 (Z66 rfl (by assumption) (by rfl)) ?_ | refine Z55 (Z67 rfl (by assumption)) ?_) | (refine Z68 ?_; refine Z55 (Z69 rfl rfl rfl (by omega)) ?_) | (refine Z70 ?_; first | refine Z55 (Z14 rfl (by decide) rfl) ?_ | refine Z55 (Z15 rfl (by decide) rfl) ?_) | (refine Z71 ?_; first | refine Z55 (Z72 rfl) ?_ | refine Z55 (Z73 rfl) ?_) | (refine Z74 ?_; first | refine Z55 (Z75 rfl rfl (by omega)) ?_ | refine Z55 (Z76 rfl rfl (by omega)) ?_ | refine Z55 (Z77 rfl rfl (by omega)) ?_ | refine Z55 (Z78 rfl rfl (by omega) (by omega)) ?_ | refine Z55 (Z79 rfl rfl (by omega) (by omega) (by omega)) ?_ | refine Z55 (Z25 rfl rfl) ?_ | refine Z55 (Z26 rfl rfl) ?_) | (refine Z80 ?_; refine Z55 (Z28 rfl (Z53 ⟨by omega, by omega⟩)) ?_) | refine Z81 fun w' hw' => ?_)
          replace e0 := e0.trans hw'
          replace hr := hr.ext hw'
          refine goS ?_
          refine WO_storeS (k := 2) (vs := [.slice none 0 0, .slice none 0 0]) rfl rfl rfl (by intro v hv; simp at hv; subst hv; rfl) hr (by decide) fun wz hz oz => ?_
          replace hz : Blk wz w1.heap.size [.slice none 0 0, .slice none 0 0] _ := hz
          refine goS ?_
          exact at_ret2G rfl (.cell inferInstance rfl hz rfl) (.tmp rfl) (by rw [hsw]; exact PrO.none_ (Ext.only e0 oz s1))
        · rw [if_pos ⟨hb1, hb2, hap⟩] at hsw
          repeat' (first | refine Z55 (Z56 rfl) ?_ | (refine Z57 ?_; first | refine Z58 rfl rfl (by decide) ?_ | refine Z59 rfl rfl (by decide) ?_ | refine Z60 rfl rfl ?_ | ((refine Z61 rfl rfl (fun c' hc' => ?_)); cases c' <;> (try simp only [decide_eq_true_eq, decide_eq_false_iff_not, beq_iff_eq, beq_eq_false_iff_ne, bne_iff_ne, bne_eq_false_iff_eq, ne_eq, gt_iff_lt, ge_iff_le, Int.not_lt, Int.not_le, Bool.not_eq_true', Bool.not_eq_false', Bool.not_true, Bool.not_false, reduceCtorEq, Decidable.not_not, not_true_eq_false, Bool.true_eq_false, Bool.false_eq_true] at hc') <;> (try (exfalso; omega)))) | (refine Z62 ?_; first | refine Z55 (Z63 rfl rfl) ?_ | refine Z55 (Z64 rfl rfl) ?_) | (refine Z65 ?_; first | refine Z55 (Z66 rfl (by assumption) (by rfl)) ?_ | refine Z55 (Z67 rfl (by assumption)) ?_) | (refine Z68 ?_; refine Z55 (Z69 rfl rfl rfl (by omega)) ?_) | (refine Z70 ?_; first | refine Z55 (Z14 rfl (by decide) rfl) ?_ | refine Z55 (Z15 rfl (by decide) rfl) ?_) | (refine Z71 ?_; first | refine Z55 (Z72 rfl) ?_ | refine Z55 (Z73 rfl) ?_) | (refine Z74 ?_; first | refine Z55 (Z75 rfl rfl (by omega)) ?_ | refine Z55 (Z76 rfl rfl (by omega)) ?_ | refine Z55 (Z77 rfl rfl (by omega)) ?_ | refine Z55 (Z78 rfl rfl (by omega) (by omega)) ?_ | refine Z55 (Z79 rfl rfl (by omega) (by omega) (by omega)) ?_ | refine Z55 (Z25 rfl rfl) ?_ | refine Z55 (Z26 rfl rfl) ?_) | (refine Z80 ?_; refine Z55 (Z28 rfl (Z53 ⟨by omega, by omega⟩)) ?_) | refine Z81 fun w' hw' => ?_)
          replace e0 := e0.trans hw'
          replace hr := hr.ext hw'
          replace hs := hs.ext hw'
          have s4 := hw'.size_le
          clear hop1 hop2
          refine goS ?_
          refine WO_loadSB rfl hs rfl ?_
          refine WO_call rfl (own_ret tv _ tl l F F2 _ (ht.ext e0) (StS.ext hb e0) hn hn2) ?_
          rintro _ w5 ⟨⟨tv', bv', rfl, Ft5, Fb5, h51, h52, h53, h54⟩, e5⟩
          have on1 := h51.one
          have on2 := h52.one
          replace hr := hr.ext e5
          replace e0 := e0.trans e5
          have s5 := e5.size_le
          refine goS ?_
          refine WO_alloc fun w6 ho e6 z6 => ?_
          refine WO_storeS (k := 2) (vs := [tv', bv']) rfl rfl rfl (by simp; exact ⟨on1, on2⟩) ho (by decide) fun w7 ho7 o7 => ?_
          replace ho7 : Blk w7 w5.heap.size [tv', bv'] _ := ho7
          have e7 : Ext w5 w7 := e6.only o7 (Nat.le_refl _)
          replace hr := hr.ext e7
          replace h51 := h51.ext e7
          replace h52 := h52.ext e7
          replace e0 := e0.trans e7
          have s7 := ho7.lt
          have hnd := List.nodup_append.1 h53
          have q1' := q1
          rw [hr2] at q1'
          have hLq : (l.take i).app (St1.cons ⟨op, x, y, n, t, e⟩ (St1.cons ⟨op', x', y', n', t', e'⟩ r')) = l := q1'.symm
          rw [← hLq] at h52
          obtain ⟨g, cap, cs, ut, ue, ut', ue', G1, Gt, Ge, Gt', Ge', G2, hbv, rfl, k1, k2, k3, k4, k8, k9, k10, k11, k12⟩ := RowS.put2 h52
          rw [hLq] at hbv
          subst hbv
          rw [q2] at k2 k3 k4 k12
          have hone1 : ∀ u ∈ [Value.int .i64 op, .int .i64 x, .int .i64 y, .int .i64 n, ut, ue], u.oneCell' = true := by
            intro u hu; simp at hu; rcases hu with rfl | rfl | rfl | rfl | rfl | rfl <;> first | rfl | exact k8.one | exact k9.one
          have hone2 : ∀ u ∈ [Value.int .i64 op', .int .i64 x', .int .i64 y', .int .i64 n', ut', ue'], u.oneCell' = true := by
            intro u hu; simp at hu; rcases hu with rfl | rfl | rfl | rfl | rfl | rfl <;> first | rfl | exact k10.one | exact k11.one
          have hgB := h54 g (by simp)
          have hgn := (List.nodup_cons.1 hnd.2.1).1
          simp only [List.mem_append, not_or] at hgn
          refine goS ?_
          refine W_held0 [g] [(4, .pointer (some ⟨w1.heap.size, 0, none⟩)), (6, .pointer (some ⟨w5.heap.size, 0, none⟩))] (SwIn 62 (.slice (some ⟨g, 0, none⟩) l.len cap) ((l.take i).app (.cons op' x' y' n' t' e' (.cons op x y n t e r'))) g (G1 ++ (Gt' ++ (Ge' ++ (Gt ++ (Ge ++ G2))))) w7) (by kernel_rfl) (fun ws es hS => ?_) (fun w8 hR => ?_)
          · have hgs := k1.ext es
            have hos := ho7.ext es
            have k8s := k8.ext es
            have k9s := k9.ext es
            have k10s := k10.ext es
            have k11s := k11.ext es
            have hno : w5.heap.size ∉ [g] := by simp; omega
            first | refine Z82 0 rfl (by kernel_rfl) (by kernel_rfl) (by kernel_rfl) (by assumption) (fun w' hw' => Z56 rfl) ?_ | refine Z82 0 rfl (by kernel_rfl) (by kernel_rfl) (by kernel_rfl) (by assumption) (fun w' hw' => Z63 rfl rfl) ?_ | refine Z82 0 rfl (by kernel_rfl) (by kernel_rfl) (by kernel_rfl) (by assumption) (fun w' hw' => Z64 rfl rfl) ?_ | refine Z82 0 rfl (by kernel_rfl) (by kernel_rfl) (by kernel_rfl) (by assumption) (fun w' hw' => Z75 rfl rfl (by omega)) ?_ | refine Z82 0 rfl (by kernel_rfl) (by kernel_rfl) (by kernel_rfl) (by assumption) (fun w' hw' => Z72 rfl) ?_ | refine Z82 0 rfl (by kernel_rfl) (by kernel_rfl) (by kernel_rfl) (by assumption) (fun w' hw' => Z69 rfl rfl rfl (by omega)) ?_ | refine Z82 0 rfl (by kernel_rfl) (by kernel_rfl) (by kernel_rfl) (by assumption) (fun w' hw' => Z30 rfl (by rfl) (by simp only [Z84, List.set_cons_zero, List.set_cons_succ]; rfl)) ?_
            refine Z82 1 rfl (by kernel_rfl) (by kernel_rfl) (by kernel_rfl) (by assumption) (fun w' hw' => Z66 rfl (hos.chg hw' hno) rfl) ?_
            first | refine Z82 2 rfl (by kernel_rfl) (by kernel_rfl) (by kernel_rfl) (by assumption) (fun w' hw' => Z56 rfl) ?_ | refine Z82 2 rfl (by kernel_rfl) (by kernel_rfl) (by kernel_rfl) (by assumption) (fun w' hw' => Z63 rfl rfl) ?_ | refine Z82 2 rfl (by kernel_rfl) (by kernel_rfl) (by kernel_rfl) (by assumption) (fun w' hw' => Z64 rfl rfl) ?_ | refine Z82 2 rfl (by kernel_rfl) (by kernel_rfl) (by kernel_rfl) (by assumption) (fun w' hw' => Z75 rfl rfl (by omega)) ?_ | refine Z82 2 rfl (by kernel_rfl) (by kernel_rfl) (by kernel_rfl) (by assumption) (fun w' hw' => Z72 rfl) ?_ | refine Z82 2 rfl (by kernel_rfl) (by kernel_rfl) (by kernel_rfl) (by assumption) (fun w' hw' => Z69 rfl rfl rfl (by omega)) ?_ | refine Z82 2 rfl (by kernel_rfl) (by kernel_rfl) (by kernel_rfl) (by assumption) (fun w' hw' => Z30 rfl (by rfl) (by simp only [Z84, List.set_cons_zero, List.set_cons_succ]; rfl)) ?_
            first | refine Z82 3 rfl (by kernel_rfl) (by kernel_rfl) (by kernel_rfl) (by assumption) (fun w' hw' => Z56 rfl) ?_ | refine Z82 3 rfl (by kernel_rfl) (by kernel_rfl) (by kernel_rfl) (by assumption) (fun w' hw' => Z63 rfl rfl) ?_ | refine Z82 3 rfl (by kernel_rfl) (by kernel_rfl) (by kernel_rfl) (by assumption) (fun w' hw' => Z64 rfl rfl) ?_ | refine Z82 3 rfl (by kernel_rfl) (by kernel_rfl) (by kernel_rfl) (by assumption) (fun w' hw' => Z75 rfl rfl (by omega)) ?_ | refine Z82 3 rfl (by kernel_rfl) (by kernel_rfl) (by kernel_rfl) (by assumption) (fun w' hw' => Z72 rfl) ?_ | refine Z82 3 rfl (by kernel_rfl) (by kernel_rfl) (by kernel_rfl) (by assumption) (fun w' hw' => Z69 rfl rfl rfl (by omega)) ?_ | refine Z82 3 rfl (by kernel_rfl) (by kernel_rfl) (by kernel_rfl) (by assumption) (fun w' hw' => Z30 rfl (by rfl) (by simp only [Z84, List.set_cons_zero, List.set_cons_succ]; rfl)) ?_
            refine Z82 4 rfl (by kernel_rfl) (by kernel_rfl) (by kernel_rfl) (by assumption) (fun w' hw' => Z66 rfl (hos.chg hw' hno) rfl) ?_
            first | refine Z82 5 rfl (by kernel_rfl) (by kernel_rfl) (by kernel_rfl) (by assumption) (fun w' hw' => Z56 rfl) ?_ | refine Z82 5 rfl (by kernel_rfl) (by kernel_rfl) (by kernel_rfl) (by assumption) (fun w' hw' => Z63 rfl rfl) ?_ | refine Z82 5 rfl (by kernel_rfl) (by kernel_rfl) (by kernel_rfl) (by assumption) (fun w' hw' => Z64 rfl rfl) ?_ | refine Z82 5 rfl (by kernel_rfl) (by kernel_rfl) (by kernel_rfl) (by assumption) (fun w' hw' => Z75 rfl rfl (by omega)) ?_ | refine Z82 5 rfl (by kernel_rfl) (by kernel_rfl) (by kernel_rfl) (by assumption) (fun w' hw' => Z72 rfl) ?_ | refine Z82 5 rfl (by kernel_rfl) (by kernel_rfl) (by kernel_rfl) (by assumption) (fun w' hw' => Z69 rfl rfl rfl (by omega)) ?_ | refine Z82 5 rfl (by kernel_rfl) (by kernel_rfl) (by kernel_rfl) (by assumption) (fun w' hw' => Z30 rfl (by rfl) (by simp only [Z84, List.set_cons_zero, List.set_cons_succ]; rfl)) ?_
            first | refine Z82 6 rfl (by kernel_rfl) (by kernel_rfl) (by kernel_rfl) (by assumption) (fun w' hw' => Z56 rfl) ?_ | refine Z82 6 rfl (by kernel_rfl) (by kernel_rfl) (by kernel_rfl) (by assumption) (fun w' hw' => Z63 rfl rfl) ?_ | refine Z82 6 rfl (by kernel_rfl) (by kernel_rfl) (by kernel_rfl) (by assumption) (fun w' hw' => Z64 rfl rfl) ?_ | refine Z82 6 rfl (by kernel_rfl) (by kernel_rfl) (by kernel_rfl) (by assumption) (fun w' hw' => Z75 rfl rfl (by omega)) ?_ | refine Z82 6 rfl (by kernel_rfl) (by kernel_rfl) (by kernel_rfl) (by assumption) (fun w' hw' => Z72 rfl) ?_ | refine Z82 6 rfl (by kernel_rfl) (by kernel_rfl) (by kernel_rfl) (by assumption) (fun w' hw' => Z69 rfl rfl rfl (by omega)) ?_ | refine Z82 6 rfl (by kernel_rfl) (by kernel_rfl) (by kernel_rfl) (by assumption) (fun w' hw' => Z30 rfl (by rfl) (by simp only [Z84, List.set_cons_zero, List.set_cons_succ]; rfl)) ?_
            first | refine Z82 7 rfl (by kernel_rfl) (by kernel_rfl) (by kernel_rfl) (by assumption) (fun w' hw' => Z56 rfl) ?_ | refine Z82 7 rfl (by kernel_rfl) (by kernel_rfl) (by kernel_rfl) (by assumption) (fun w' hw' => Z63 rfl rfl) ?_ | refine Z82 7 rfl (by kernel_rfl) (by kernel_rfl) (by kernel_rfl) (by assumption) (fun w' hw' => Z64 rfl rfl) ?_ | refine Z82 7 rfl (by kernel_rfl) (by kernel_rfl) (by kernel_rfl) (by assumption) (fun w' hw' => Z75 rfl rfl (by omega)) ?_ | refine Z82 7 rfl (by kernel_rfl) (by kernel_rfl) (by kernel_rfl) (by assumption) (fun w' hw' => Z72 rfl) ?_ | refine Z82 7 rfl (by kernel_rfl) (by kernel_rfl) (by kernel_rfl) (by assumption) (fun w' hw' => Z69 rfl rfl rfl (by omega)) ?_ | refine Z82 7 rfl (by kernel_rfl) (by kernel_rfl) (by kernel_rfl) (by assumption) (fun w' hw' => Z30 rfl (by rfl) (by simp only [Z84, List.set_cons_zero, List.set_cons_succ]; rfl)) ?_
            refine Z82 8 rfl (by kernel_rfl) (by kernel_rfl) (by kernel_rfl) (by assumption) (fun w' hw' => Z66 rfl (hos.chg hw' hno) rfl) ?_
            first | refine Z82 9 rfl (by kernel_rfl) (by kernel_rfl) (by kernel_rfl) (by assumption) (fun w' hw' => Z56 rfl) ?_ | refine Z82 9 rfl (by kernel_rfl) (by kernel_rfl) (by kernel_rfl) (by assumption) (fun w' hw' => Z63 rfl rfl) ?_ | refine Z82 9 rfl (by kernel_rfl) (by kernel_rfl) (by kernel_rfl) (by assumption) (fun w' hw' => Z64 rfl rfl) ?_ | refine Z82 9 rfl (by kernel_rfl) (by kernel_rfl) (by kernel_rfl) (by assumption) (fun w' hw' => Z75 rfl rfl (by omega)) ?_ | refine Z82 9 rfl (by kernel_rfl) (by kernel_rfl) (by kernel_rfl) (by assumption) (fun w' hw' => Z72 rfl) ?_ | refine Z82 9 rfl (by kernel_rfl) (by kernel_rfl) (by kernel_rfl) (by assumption) (fun w' hw' => Z69 rfl rfl rfl (by omega)) ?_ | refine Z82 9 rfl (by kernel_rfl) (by kernel_rfl) (by kernel_rfl) (by assumption) (fun w' hw' => Z30 rfl (by rfl) (by simp only [Z84, List.set_cons_zero, List.set_cons_succ]; rfl)) ?_
            first | refine Z82 10 rfl (by kernel_rfl) (by kernel_rfl) (by kernel_rfl) (by assumption) (fun w' hw' => Z56 rfl) ?_ | refine Z82 10 rfl (by kernel_rfl) (by kernel_rfl) (by kernel_rfl) (by assumption) (fun w' hw' => Z63 rfl rfl) ?_ | refine Z82 10 rfl (by kernel_rfl) (by kernel_rfl) (by kernel_rfl) (by assumption) (fun w' hw' => Z64 rfl rfl) ?_ | refine Z82 10 rfl (by kernel_rfl) (by kernel_rfl) (by kernel_rfl) (by assumption) (fun w' hw' => Z75 rfl rfl (by omega)) ?_ | refine Z82 10 rfl (by kernel_rfl) (by kernel_rfl) (by kernel_rfl) (by assumption) (fun w' hw' => Z72 rfl) ?_ | refine Z82 10 rfl (by kernel_rfl) (by kernel_rfl) (by kernel_rfl) (by assumption) (fun w' hw' => Z69 rfl rfl rfl (by omega)) ?_ | refine Z82 10 rfl (by kernel_rfl) (by kernel_rfl) (by kernel_rfl) (by assumption) (fun w' hw' => Z30 rfl (by rfl) (by simp only [Z84, List.set_cons_zero, List.set_cons_succ]; rfl)) ?_
            refine Z82 11 rfl (by kernel_rfl) (by kernel_rfl) (by kernel_rfl) (by assumption) (fun w' hw' => Z69 (j := i + 1) rfl rfl (by omega) (by omega)) ?_
            first | refine Z82 13 rfl (by kernel_rfl) (by kernel_rfl) (by kernel_rfl) (by assumption) (fun w' hw' => Z56 rfl) ?_ | refine Z82 13 rfl (by kernel_rfl) (by kernel_rfl) (by kernel_rfl) (by assumption) (fun w' hw' => Z63 rfl rfl) ?_ | refine Z82 13 rfl (by kernel_rfl) (by kernel_rfl) (by kernel_rfl) (by assumption) (fun w' hw' => Z64 rfl rfl) ?_ | refine Z82 13 rfl (by kernel_rfl) (by kernel_rfl) (by kernel_rfl) (by assumption) (fun w' hw' => Z75 rfl rfl (by omega)) ?_ | refine Z82 13 rfl (by kernel_rfl) (by kernel_rfl) (by kernel_rfl) (by assumption) (fun w' hw' => Z72 rfl) ?_ | refine Z82 13 rfl (by kernel_rfl) (by kernel_rfl) (by kernel_rfl) (by assumption) (fun w' hw' => Z69 rfl rfl rfl (by omega)) ?_ | refine Z82 13 rfl (by kernel_rfl) (by kernel_rfl) (by kernel_rfl) (by assumption) (fun w' hw' => Z30 rfl (by rfl) (by simp only [Z84, List.set_cons_zero, List.set_cons_succ]; rfl)) ?_
            refine Z82 14 rfl (by kernel_rfl) (by kernel_rfl) (by kernel_rfl) (by assumption) (fun w' hw' => Z66 rfl (hos.chg hw' hno) rfl) ?_
            first | refine Z82 15 rfl (by kernel_rfl) (by kernel_rfl) (by kernel_rfl) (by assumption) (fun w' hw' => Z56 rfl) ?_ | refine Z82 15 rfl (by kernel_rfl) (by kernel_rfl) (by kernel_rfl) (by assumption) (fun w' hw' => Z63 rfl rfl) ?_ | refine Z82 15 rfl (by kernel_rfl) (by kernel_rfl) (by kernel_rfl) (by assumption) (fun w' hw' => Z64 rfl rfl) ?_ | refine Z82 15 rfl (by kernel_rfl) (by kernel_rfl) (by kernel_rfl) (by assumption) (fun w' hw' => Z75 rfl rfl (by omega)) ?_ | refine Z82 15 rfl (by kernel_rfl) (by kernel_rfl) (by kernel_rfl) (by assumption) (fun w' hw' => Z72 rfl) ?_ | refine Z82 15 rfl (by kernel_rfl) (by kernel_rfl) (by kernel_rfl) (by assumption) (fun w' hw' => Z69 rfl rfl rfl (by omega)) ?_ | refine Z82 15 rfl (by kernel_rfl) (by kernel_rfl) (by kernel_rfl) (by assumption) (fun w' hw' => Z30 rfl (by rfl) (by simp only [Z84, List.set_cons_zero, List.set_cons_succ]; rfl)) ?_
            refine Z82 16 rfl (by kernel_rfl) (by kernel_rfl) (by kernel_rfl) (by assumption) (fun w' hw' => Z69 (j := i) rfl rfl rfl (by omega)) ?_
            have ld1 : ∀ (j : Nat) u, [Value.int .i64 op', .int .i64 x', .int .i64 y', .int .i64 n', ut', ue'][j]? = some u → ws.cell? ⟨g, 0 + (i + 1) * 6 + j, none⟩ = some u := fun j u hu => by
              rw [show 0 + (i + 1) * 6 + j = i * 6 + 6 + j from by omega]; exact hgs.cell (k4 j u hu)
            have ld2 : ∀ (j : Nat) u, [Value.int .i64 op, .int .i64 x, .int .i64 y, .int .i64 n, ut, ue][j]? = some u → ws.cell? ⟨g, 0 + i * 6 + j, none⟩ = some u := fun j u hu => by
              rw [Nat.zero_add]; exact hgs.cell (k3 j u hu)
            refine WH_two 12 17 rfl rfl (by kernel_rfl) ?_ ?_
            · refine WO_loadS (k := 6) rfl rfl ld1 (Z31 (at_held hS ?_))
              refine WH_one 17 rfl (by kernel_rfl) (WO_loadS (k := 6) rfl rfl ld2 (Z31 (at_held hS ?_)))
              refine Z82 18 rfl (by kernel_rfl) (by kernel_rfl) (by kernel_rfl) (by assumption) (fun w' hw' => Z69 (j := i) rfl rfl rfl (by omega)) ?_
              refine WH_one 19 rfl (by kernel_rfl) (WO_storeS (k := 6) (vs := [.int .i64 op', .int .i64 x', .int .i64 y', .int .i64 n', ut', ue']) rfl rfl rfl hone2 hgs (by omega) fun wa hga oa => Z31 (at_held oa.chg ?_))
              have Sa := oa.chg
              refine Z82 20 rfl (by kernel_rfl) (by kernel_rfl) (by kernel_rfl) (by assumption) (fun w' hw' => Z69 (j := i + 1) rfl rfl (by omega) (by omega)) ?_
              have hl1 : (cs.take (0 + i * 6) ++ [.int .i64 op', .int .i64 x', .int .i64 y', .int .i64 n', ut', ue'] ++ cs.drop (0 + i * 6 + 6)).length = cs.length := by simp; omega
              refine WH_one 21 rfl (by kernel_rfl) (WO_storeS (k := 6) (vs := [.int .i64 op, .int .i64 x, .int .i64 y, .int .i64 n, ut, ue]) rfl rfl rfl hone1 hga (by omega) fun wb hgb ob => Z31 (at_held (Sa.trans ob.chg) ?_))
              obtain ⟨m1, m2, m3, m4⟩ := put_two (cs := cs) (i := i) (p := [.int .i64 op', .int .i64 x', .int .i64 y', .int .i64 n', ut', ue']) (q := [.int .i64 op, .int .i64 x, .int .i64 y, .int .i64 n, ut, ue]) rfl rfl (by omega) rfl rfl
              have cab := Sa.trans ob.chg
              have kk := fun (x : Nat) (G : List Nat) (hx : x ∈ G) (hG : ∀ z ∈ G, z ≠ g) => hG x hx
              refine WH_done (by kernel_rfl) (by repeat (first | exact True.intro | refine And.intro rfl ?_)) ⟨k12 wb _ ⟨op', x', y', n', t', e'⟩ ⟨op, x, y, n, t, e⟩ ut' ue' ut ue Gt' Ge' Gt Ge hgb m1 m2 m3 m4 (k10s.chg cab (by simp; exact fun z hz e => hgn.2.2.2.1 (e ▸ hz))) (k11s.chg cab (by simp; exact fun z hz e => hgn.2.2.2.2.1 (e ▸ hz))) (k8s.chg cab (by simp; exact fun z hz e => hgn.2.1 (e ▸ hz))) (k9s.chg cab (by simp; exact fun z hz e => hgn.2.2.1 (e ▸ hz))) ((es.chg _).trans cab) (by simp only [List.mem_append, not_or]; exact ⟨hgn.1, hgn.2.2.2.2.2⟩), (es.chg _).trans cab⟩
            · refine WO_loadS (k := 6) rfl rfl ld2 (Z31 (at_held hS ?_))
              refine WH_one 12 rfl (by kernel_rfl) (WO_loadS (k := 6) rfl rfl ld1 (Z31 (at_held hS ?_)))
              refine Z82 18 rfl (by kernel_rfl) (by kernel_rfl) (by kernel_rfl) (by assumption) (fun w' hw' => Z69 (j := i) rfl rfl rfl (by omega)) ?_
              refine WH_one 19 rfl (by kernel_rfl) (WO_storeS (k := 6) (vs := [.int .i64 op', .int .i64 x', .int .i64 y', .int .i64 n', ut', ue']) rfl rfl rfl hone2 hgs (by omega) fun wa hga oa => Z31 (at_held oa.chg ?_))
              have Sa := oa.chg
              refine Z82 20 rfl (by kernel_rfl) (by kernel_rfl) (by kernel_rfl) (by assumption) (fun w' hw' => Z69 (j := i + 1) rfl rfl (by omega) (by omega)) ?_
              have hl1 : (cs.take (0 + i * 6) ++ [.int .i64 op', .int .i64 x', .int .i64 y', .int .i64 n', ut', ue'] ++ cs.drop (0 + i * 6 + 6)).length = cs.length := by simp; omega
              refine WH_one 21 rfl (by kernel_rfl) (WO_storeS (k := 6) (vs := [.int .i64 op, .int .i64 x, .int .i64 y, .int .i64 n, ut, ue]) rfl rfl rfl hone1 hga (by omega) fun wb hgb ob => Z31 (at_held (Sa.trans ob.chg) ?_))
              obtain ⟨m1, m2, m3, m4⟩ := put_two (cs := cs) (i := i) (p := [.int .i64 op', .int .i64 x', .int .i64 y', .int .i64 n', ut', ue']) (q := [.int .i64 op, .int .i64 x, .int .i64 y, .int .i64 n, ut, ue]) rfl rfl (by omega) rfl rfl
              have cab := Sa.trans ob.chg
              have kk := fun (x : Nat) (G : List Nat) (hx : x ∈ G) (hG : ∀ z ∈ G, z ≠ g) => hG x hx
              refine WH_done (by kernel_rfl) (by repeat (first | exact True.intro | refine And.intro rfl ?_)) ⟨k12 wb _ ⟨op', x', y', n', t', e'⟩ ⟨op, x, y, n, t, e⟩ ut' ue' ut ue Gt' Ge' Gt Ge hgb m1 m2 m3 m4 (k10s.chg cab (by simp; exact fun z hz e => hgn.2.2.2.1 (e ▸ hz))) (k11s.chg cab (by simp; exact fun z hz e => hgn.2.2.2.2.1 (e ▸ hz))) (k8s.chg cab (by simp; exact fun z hz e => hgn.2.1 (e ▸ hz))) (k9s.chg cab (by simp; exact fun z hz e => hgn.2.2.1 (e ▸ hz))) ((es.chg _).trans cab) (by simp only [List.mem_append, not_or]; exact ⟨hgn.1, hgn.2.2.2.2.2⟩), (es.chg _).trans cab⟩
          · obtain ⟨h82, c8⟩ := hR
            have ho8 := ho7.chg c8 (by simp; omega)
            have h81 := h51.chg c8 (fun z hz hm => by simp at hm; subst hm; exact hnd.2.2 z hz z (by simp) rfl)
            replace hr := hr.chg c8 (by simp; omega)
            replace e0 : Ext w w8 := c8.ext_of e0 (by simp; omega)
            have hmem : ∀ z ∈ Ft5 ++ g :: (G1 ++ (Gt' ++ (Ge' ++ (Gt ++ (Ge ++ G2))))), w'.heap.size ≤ z ∧ z < w5.heap.size := fun z hz => h54 z (mem_swap hz)
            refine goS ?_
            refine WO_loadSB rfl ho8 rfl ?_
            refine WO_storeS (k := 2) (vs := [tv', .slice (some ⟨g, 0, none⟩) l.len cap]) rfl rfl rfl (by simp; exact ⟨on1, rfl⟩) hr (by decide) fun w9 hr9 o9 => ?_
            replace hr9 : Blk w9 w1.heap.size [tv', .slice (some ⟨g, 0, none⟩) l.len cap] _ := hr9
            refine goS ?_
            refine at_ret2G rfl (.cell inferInstance rfl hr9 rfl) (.tmp rfl) ?_
            rw [hsw]
            exact PrO.some_ (h81.chg o9.chg (fun z hz hm => by simp at hm; subst hm; have := hmem _ (List.mem_append_left _ hz); omega)) (h82.chg o9.chg (fun z hz hm => by simp only [List.mem_singleton] at hm; subst hm; have := hmem _ (List.mem_append_right _ hz); omega)) (perm_swap h53) (fun z hz => by have := hmem z hz; omega) (e0.only o9 (by omega))
  · have hnone := swpR_none hyes
    have hpair : (validP tl l && decide (0 ≤ k ∧ k ≤ (l.len : Int) - 2)) = false := by
      rw [Bool.eq_false_iff]
      simpa using hyes
    refine Z54 (by kernel_rfl) (by kernel_rfl) ?_
    refine Z55 (q_loadS (cs := [tv, .slice A l.len c]) rfl rfl (fun j u hu => by rw [Nat.zero_add]; exact hs.cell hu)) ?_
    repeat' (first | refine Z55 (Z56 rfl) ?_ | (refine Z57 ?_; first | refine Z58 rfl rfl (by decide) ?_ | refine Z59 rfl rfl (by decide) ?_ | refine Z60 rfl rfl ?_ | ((refine Z61 rfl rfl (fun c' hc' => ?_)); cases c' <;> (try simp only [decide_eq_true_eq, decide_eq_false_iff_not, beq_iff_eq, beq_eq_false_iff_ne, bne_iff_ne, bne_eq_false_iff_eq, ne_eq, gt_iff_lt, ge_iff_le, Int.not_lt, Int.not_le, Bool.not_eq_true', Bool.not_eq_false', Bool.not_true, Bool.not_false, reduceCtorEq, Decidable.not_not, not_true_eq_false, Bool.true_eq_false, Bool.false_eq_true] at hc') <;> (try (exfalso; omega)))) | (refine Z62 ?_; first | refine Z55 (Z63 rfl rfl) ?_ | refine Z55 (Z64 rfl rfl) ?_) | (refine Z65 ?_; first | refine Z55 (Z66 rfl (by assumption) (by rfl)) ?_ | refine Z55 (Z67 rfl (by assumption)) ?_) | (refine Z68 ?_; refine Z55 (Z69 rfl rfl rfl (by omega)) ?_) | (refine Z70 ?_; first | refine Z55 (Z14 rfl (by decide) rfl) ?_ | refine Z55 (Z15 rfl (by decide) rfl) ?_) | (refine Z71 ?_; first | refine Z55 (Z72 rfl) ?_ | refine Z55 (Z73 rfl) ?_) | (refine Z74 ?_; first | refine Z55 (Z75 rfl rfl (by omega)) ?_ | refine Z55 (Z76 rfl rfl (by omega)) ?_ | refine Z55 (Z77 rfl rfl (by omega)) ?_ | refine Z55 (Z78 rfl rfl (by omega) (by omega)) ?_ | refine Z55 (Z79 rfl rfl (by omega) (by omega) (by omega)) ?_ | refine Z55 (Z25 rfl rfl) ?_ | refine Z55 (Z26 rfl rfl) ?_) | (refine Z80 ?_; refine Z55 (Z28 rfl (Z53 ⟨by omega, by omega⟩)) ?_) | refine Z81 fun w' hw' => ?_)
    refine WQ_call rfl (fun w' ew => hasPair_ret tv _ tl l F F2 k w' (ht.ext (e0.trans ew)) (hb.ext (e0.trans ew))) ?_
    rw [hpair]
    repeat' (first | refine Z55 (Z56 rfl) ?_ | (refine Z57 ?_; first | refine Z58 rfl rfl (by decide) ?_ | refine Z59 rfl rfl (by decide) ?_ | refine Z60 rfl rfl ?_ | ((refine Z61 rfl rfl (fun c' hc' => ?_)); cases c' <;> (try simp only [decide_eq_true_eq, decide_eq_false_iff_not, beq_iff_eq, beq_eq_false_iff_ne, bne_iff_ne, bne_eq_false_iff_eq, ne_eq, gt_iff_lt, ge_iff_le, Int.not_lt, Int.not_le, Bool.not_eq_true', Bool.not_eq_false', Bool.not_true, Bool.not_false, reduceCtorEq, Decidable.not_not, not_true_eq_false, Bool.true_eq_false, Bool.false_eq_true] at hc') <;> (try (exfalso; omega)))) | (refine Z62 ?_; first | refine Z55 (Z63 rfl rfl) ?_ | refine Z55 (Z64 rfl rfl) ?_) | (refine Z65 ?_; first | refine Z55 (Z66 rfl (by assumption) (by rfl)) ?_ | refine Z55 (Z67 rfl (by assumption)) ?_) | (refine Z68 ?_; refine Z55 (Z69 rfl rfl rfl (by omega)) ?_) | (refine Z70 ?_; first | refine Z55 (Z14 rfl (by decide) rfl) ?_ | refine Z55 (Z15 rfl (by decide) rfl) ?_) | (refine Z71 ?_; first | refine Z55 (Z72 rfl) ?_ | refine Z55 (Z73 rfl) ?_) | (refine Z74 ?_; first | refine Z55 (Z75 rfl rfl (by omega)) ?_ | refine Z55 (Z76 rfl rfl (by omega)) ?_ | refine Z55 (Z77 rfl rfl (by omega)) ?_ | refine Z55 (Z78 rfl rfl (by omega) (by omega)) ?_ | refine Z55 (Z79 rfl rfl (by omega) (by omega) (by omega)) ?_ | refine Z55 (Z25 rfl rfl) ?_ | refine Z55 (Z26 rfl rfl) ?_) | (refine Z80 ?_; refine Z55 (Z28 rfl (Z53 ⟨by omega, by omega⟩)) ?_) | refine Z81 fun w' hw' => ?_)
    replace e0 := e0.trans hw'
    replace hr := hr.ext hw'
    refine goS ?_
    refine WO_storeS (k := 2) (vs := [.slice none 0 0, .slice none 0 0]) rfl rfl rfl (by intro v hv; simp at hv; subst hv; rfl) hr (by decide) fun wz hz oz => ?_
    replace hz : Blk wz w1.heap.size [.slice none 0 0, .slice none 0 0] _ := hz
    refine goS ?_
    exact at_ret2G rfl (.cell inferInstance rfl hz rfl) (.tmp rfl) (by rw [hnone]; exact PrO.none_ (Ext.only e0 oz s1))
end Go.Proofs.Ytpmgfokcbgdegaa
