/-
  What is proved here: the text that the program's writer of programs returns.
-/
import Derived.Test.YteonnoijdnjpdaaDoorTw
import Derived.Test.YteonnoijdnjpdaaDoorLil
import Derived.Test.YteonnoijdnjpdaaDoorShf
namespace Go.Proofs.YteonnoijdnjpdaaDoor
set_option linter.unusedVariables false
set_option linter.unusedSimpArgs false
set_option linter.unnecessarySimpa false
open Go.RowKit

theorem itoa_ret (n : Int) (w : World) (hn : 0 ≤ n ∧ n ≤ 9) : Ret Tryd.prog 60 [.int .i64 n] w fun r w' => r = sV [dgv n] ∧ w' = w := by
  obtain ⟨k, rfl⟩ : ∃ k : Nat, n = k := ⟨n.toNat, by omega⟩
  refine Calls.mono (Tryd.strconv_Itoa_small k (by omega) w) fun e w' h => ⟨_, h.1, ?_, h.2⟩
  rw [show Lib.decDigits k = [UInt8.ofNat (48 + k)] from by unfold Lib.decDigits; rw [dif_pos (by omega)]]
  rfl
theorem joinTail_one (x : Tx) (r : List Tx) : Lib.joinTail [59] (x :: r) = 59 :: (x ++ Lib.joinTail [59] r) := by simp [Lib.joinTail]
/-- The texts of the statements of a list. -/
def itemsT : Ss → List Tx
  | .nil => []
  | .cons op x y n t e r => itT op x y n (lsT t) (lsT e) :: itemsT r
theorem itemsT_len : ∀ l : Ss, (itemsT l).length = l.len
  | .nil => rfl
  | .cons op x y n t e r => by simp [itemsT, Ss.len, itemsT_len r]
theorem itemsT_app : ∀ a b : Ss, itemsT (a.app b) = itemsT a ++ itemsT b
  | .nil, _ => rfl
  | .cons op x y n t e r, b => by simp [itemsT, Ss.app, itemsT_app r b]
theorem itemsT_tail : ∀ l : Ss, Lib.joinTail [59] (itemsT l) = if l.len = 0 then [] else 59 :: lsT l
  | .nil => rfl
  | .cons op x y n t e r => by
    simp only [itemsT]
    rw [joinTail_one, itemsT_tail r, if_neg (show ¬ (Ss.cons op x y n t e r).len = 0 by simp [Ss.len])]
    rfl
theorem itemsT_join : ∀ l : Ss, Lib.join (itemsT l) [59] = lsT l
  | .nil => rfl
  | .cons op x y n t e r => by
    simp only [itemsT]
    rw [Lib.join_cons, itemsT_tail r]
    rfl
theorem sV_bytes (t : Tx) : (⟨t.toArray⟩ : ByteArray).data.toList = t := by simp
theorem join_ret (e : TypeId) (B : Nat) (v : Value) (l : List Tx) (w : World) (h : w.ownsRow B e 1 v l.length (l.map sV)) (hl : l.length ≤ 1000000) (hj : (Lib.join l [59]).length ≤ 1000000) :
    Ret Tryd.prog 65 [v, sV [59]] w fun r w' => r = sV (Lib.join l [59]) ∧ Ext w w' := by
  obtain ⟨A, c, rfl, hlc, _⟩ := ownsRow_slice h
  by_cases h0 : l.length = 0
  · have := List.eq_nil_of_length_eq_zero h0
    subst this
    exact Calls.mono (Tryd.strings_Join_none A c ⟨#[59]⟩ w) fun e w' h => ⟨_, h.1, rfl, by rw [h.2]; exact Ext.refl _⟩
  · obtain ⟨g, cap, hv, hc⟩ := row_cells h (by omega)
    injection hv with hA _ hcc
    subst hA
    have hlt : g < w.heap.size := (h.lt g rfl).2
    have hm : (l.map fun t => (⟨t.toArray⟩ : ByteArray)).map (fun b => b.data.toList) = l := by
      rw [List.map_map]
      conv => rhs; rw [← List.map_id l]
      exact List.map_congr_left fun t _ => by simp
    have hk := Tryd.strings_Join g 0 c (l.map fun t => (⟨t.toArray⟩ : ByteArray)) ⟨#[59]⟩ w (fun j x hx => ?_) hlt (by simp; omega) (by simpa using hlc) (by rw [hm]; exact Nat.le_trans hj (by decide))
    · rw [hm] at hk
      rw [List.length_map] at hk
      exact Calls.mono hk fun e w' h => ⟨_, h.1, rfl, h.2⟩
    · rw [List.getElem?_map] at hx
      refine hc j _ ?_
      rw [List.getElem?_map]
      cases hq : l[j]? with
      | none => rw [hq] at hx; cases hx
      | some t => rw [hq] at hx; cases hx; rfl
theorem letter_ret (v : Int) (w : World) (hv : 0 ≤ v ∧ v ≤ 100) : Ret Tryd.prog 59 [.int .i64 v] w fun r w' => r = sV [chv v] ∧ Ext w w' := by
  refine enter Tryd.func59 rfl Tryd.ntmps59 rfl rfl ?_
  refine goT ?_
  refine Z13 (q_toByte rfl (by omega)) ?_
  refine WO_byteStr (e := 5) (b := chv v) rfl (by rw [chv_val hv]; omega) fun w1 e1 z1 => ?_
  refine goT ?_
  exact at_ret1 rfl rfl ⟨rfl, e1⟩
theorem simpleText_ret (op x y n : Int) (vt ve : Value) (w : World) (hop : 1 ≤ op ∧ op ≤ 8) (hx : 0 ≤ x ∧ x < 6) (hy : 0 ≤ y ∧ y < 6) (hn : 0 ≤ n ∧ n ≤ 9) : Ret Tryd.prog 40 [stV op x y n vt ve] w fun r w' => r = sV (simT op x y n) ∧ Ext w w' := by
  refine enter Tryd.func40 rfl Tryd.ntmps40 rfl rfl ?_
  refine Z43 (Z44 (WO_box rfl fun w1 hs e1 z1 => ?_))
  replace hs : Blk w1 w.heap.size [.int .i64 op, .int .i64 x, .int .i64 y, .int .i64 n, vt, ve] _ := hs
  refine goT ?_
  refine Z54 (by kernel_rfl) (by kernel_rfl) ?_
  repeat' (first | refine Z55 (Z56 rfl) ?_ | (refine Z57 ?_; first | refine Z58 rfl rfl (by decide) ?_ | refine Z59 rfl rfl (by decide) ?_ | refine Z60 rfl rfl ?_ | ((refine Z61 rfl rfl (fun c' hc' => ?_)); cases c' <;> (try simp only [decide_eq_true_eq, decide_eq_false_iff_not, beq_iff_eq, beq_eq_false_iff_ne, bne_iff_ne, bne_eq_false_iff_eq, ne_eq, gt_iff_lt, ge_iff_le, Int.not_lt, Int.not_le, Bool.not_eq_true', Bool.not_eq_false', Bool.not_true, Bool.not_false, reduceCtorEq, Decidable.not_not, not_true_eq_false, Bool.true_eq_false, Bool.false_eq_true] at hc') <;> (try (exfalso; omega)))) | (refine Z62 ?_; first | refine Z55 (Z63 rfl rfl) ?_ | refine Z55 (Z64 rfl rfl) ?_) | (refine Z65 ?_; first | refine Z55 (Z66 rfl (by assumption) (by rfl)) ?_ | refine Z55 (Z67 rfl (by assumption)) ?_) | (refine Z68 ?_; refine Z55 (Z69 rfl rfl rfl (by omega)) ?_) | (refine Z70 ?_; first | refine Z55 (Z14 rfl (by decide) rfl) ?_ | refine Z55 (Z15 rfl (by decide) rfl) ?_) | (refine Z71 ?_; first | refine Z55 (Z72 rfl) ?_ | refine Z55 (Z73 rfl) ?_) | (refine Z74 ?_; first | refine Z55 (Z75 rfl rfl (by omega)) ?_ | refine Z55 (Z76 rfl rfl (by omega)) ?_ | refine Z55 (Z77 rfl rfl (by omega)) ?_ | refine Z55 (Z78 rfl rfl (by omega) (by omega)) ?_ | refine Z55 (Z79 rfl rfl (by omega) (by omega) (by omega)) ?_ | refine Z55 (Z25 rfl rfl) ?_ | refine Z55 (Z26 rfl rfl) ?_) | (refine Z80 ?_; refine Z55 (Z28 rfl (Z53 ⟨by omega, by omega⟩)) ?_) | refine Z81 fun w' hw' => ?_)
  refine WQ_call rfl (fun w' hw' => letter_ret x w' (by omega)) ?_
  repeat' (first | refine Z55 (Z56 rfl) ?_ | (refine Z57 ?_; first | refine Z58 rfl rfl (by decide) ?_ | refine Z59 rfl rfl (by decide) ?_ | refine Z60 rfl rfl ?_ | ((refine Z61 rfl rfl (fun c' hc' => ?_)); cases c' <;> (try simp only [decide_eq_true_eq, decide_eq_false_iff_not, beq_iff_eq, beq_eq_false_iff_ne, bne_iff_ne, bne_eq_false_iff_eq, ne_eq, gt_iff_lt, ge_iff_le, Int.not_lt, Int.not_le, Bool.not_eq_true', Bool.not_eq_false', Bool.not_true, Bool.not_false, reduceCtorEq, Decidable.not_not, not_true_eq_false, Bool.true_eq_false, Bool.false_eq_true] at hc') <;> (try (exfalso; omega)))) | (refine Z62 ?_; first | refine Z55 (Z63 rfl rfl) ?_ | refine Z55 (Z64 rfl rfl) ?_) | (refine Z65 ?_; first | refine Z55 (Z66 rfl (by assumption) (by rfl)) ?_ | refine Z55 (Z67 rfl (by assumption)) ?_) | (refine Z68 ?_; refine Z55 (Z69 rfl rfl rfl (by omega)) ?_) | (refine Z70 ?_; first | refine Z55 (Z14 rfl (by decide) rfl) ?_ | refine Z55 (Z15 rfl (by decide) rfl) ?_) | (refine Z71 ?_; first | refine Z55 (Z72 rfl) ?_ | refine Z55 (Z73 rfl) ?_) | (refine Z74 ?_; first | refine Z55 (Z75 rfl rfl (by omega)) ?_ | refine Z55 (Z76 rfl rfl (by omega)) ?_ | refine Z55 (Z77 rfl rfl (by omega)) ?_ | refine Z55 (Z78 rfl rfl (by omega) (by omega)) ?_ | refine Z55 (Z79 rfl rfl (by omega) (by omega) (by omega)) ?_ | refine Z55 (Z25 rfl rfl) ?_ | refine Z55 (Z26 rfl rfl) ?_) | (refine Z80 ?_; refine Z55 (Z28 rfl (Z53 ⟨by omega, by omega⟩)) ?_) | refine Z81 fun w' hw' => ?_)
  refine WQ_call rfl (fun w' hw' => letter_ret y w' (by omega)) ?_
  repeat' (first | refine Z55 (Z56 rfl) ?_ | (refine Z57 ?_; first | refine Z58 rfl rfl (by decide) ?_ | refine Z59 rfl rfl (by decide) ?_ | refine Z60 rfl rfl ?_ | ((refine Z61 rfl rfl (fun c' hc' => ?_)); cases c' <;> (try simp only [decide_eq_true_eq, decide_eq_false_iff_not, beq_iff_eq, beq_eq_false_iff_ne, bne_iff_ne, bne_eq_false_iff_eq, ne_eq, gt_iff_lt, ge_iff_le, Int.not_lt, Int.not_le, Bool.not_eq_true', Bool.not_eq_false', Bool.not_true, Bool.not_false, reduceCtorEq, Decidable.not_not, not_true_eq_false, Bool.true_eq_false, Bool.false_eq_true] at hc') <;> (try (exfalso; omega)))) | (refine Z62 ?_; first | refine Z55 (Z63 rfl rfl) ?_ | refine Z55 (Z64 rfl rfl) ?_) | (refine Z65 ?_; first | refine Z55 (Z66 rfl (by assumption) (by rfl)) ?_ | refine Z55 (Z67 rfl (by assumption)) ?_) | (refine Z68 ?_; refine Z55 (Z69 rfl rfl rfl (by omega)) ?_) | (refine Z70 ?_; first | refine Z55 (Z14 rfl (by decide) rfl) ?_ | refine Z55 (Z15 rfl (by decide) rfl) ?_) | (refine Z71 ?_; first | refine Z55 (Z72 rfl) ?_ | refine Z55 (Z73 rfl) ?_) | (refine Z74 ?_; first | refine Z55 (Z75 rfl rfl (by omega)) ?_ | refine Z55 (Z76 rfl rfl (by omega)) ?_ | refine Z55 (Z77 rfl rfl (by omega)) ?_ | refine Z55 (Z78 rfl rfl (by omega) (by omega)) ?_ | refine Z55 (Z79 rfl rfl (by omega) (by omega) (by omega)) ?_ | refine Z55 (Z25 rfl rfl) ?_ | refine Z55 (Z26 rfl rfl) ?_) | (refine Z80 ?_; refine Z55 (Z28 rfl (Z53 ⟨by omega, by omega⟩)) ?_) | refine Z81 fun w' hw' => ?_)
  refine WQ_call rfl (fun w' hw' => (itoa_ret n w' (by omega)).mono fun r w2 h => ⟨h.1, by rw [h.2]; exact Ext.refl _⟩) ?_
  repeat' (first | refine Z55 (Z56 rfl) ?_ | (refine Z57 ?_; first | refine Z58 rfl rfl (by decide) ?_ | refine Z59 rfl rfl (by decide) ?_ | refine Z60 rfl rfl ?_ | ((refine Z61 rfl rfl (fun c' hc' => ?_)); cases c' <;> (try simp only [decide_eq_true_eq, decide_eq_false_iff_not, beq_iff_eq, beq_eq_false_iff_ne, bne_iff_ne, bne_eq_false_iff_eq, ne_eq, gt_iff_lt, ge_iff_le, Int.not_lt, Int.not_le, Bool.not_eq_true', Bool.not_eq_false', Bool.not_true, Bool.not_false, reduceCtorEq, Decidable.not_not, not_true_eq_false, Bool.true_eq_false, Bool.false_eq_true] at hc') <;> (try (exfalso; omega)))) | (refine Z62 ?_; first | refine Z55 (Z63 rfl rfl) ?_ | refine Z55 (Z64 rfl rfl) ?_) | (refine Z65 ?_; first | refine Z55 (Z66 rfl (by assumption) (by rfl)) ?_ | refine Z55 (Z67 rfl (by assumption)) ?_) | (refine Z68 ?_; refine Z55 (Z69 rfl rfl rfl (by omega)) ?_) | (refine Z70 ?_; first | refine Z55 (Z14 rfl (by decide) rfl) ?_ | refine Z55 (Z15 rfl (by decide) rfl) ?_) | (refine Z71 ?_; first | refine Z55 (Z72 rfl) ?_ | refine Z55 (Z73 rfl) ?_) | (refine Z74 ?_; first | refine Z55 (Z75 rfl rfl (by omega)) ?_ | refine Z55 (Z76 rfl rfl (by omega)) ?_ | refine Z55 (Z77 rfl rfl (by omega)) ?_ | refine Z55 (Z78 rfl rfl (by omega) (by omega)) ?_ | refine Z55 (Z79 rfl rfl (by omega) (by omega) (by omega)) ?_ | refine Z55 (Z25 rfl rfl) ?_ | refine Z55 (Z26 rfl rfl) ?_) | (refine Z80 ?_; refine Z55 (Z28 rfl (Z53 ⟨by omega, by omega⟩)) ?_) | refine Z81 fun w' hw' => ?_)
  have hs := hs.ext hw'
  have e0 := e1.trans hw'
  have hop' : op = 1 ∨ op = 2 ∨ op = 3 ∨ op = 4 ∨ op = 5 ∨ op = 6 ∨ op = 7 ∨ op = 8 := by omega
  rcases hop' with rfl | rfl | rfl | rfl | rfl | rfl | rfl | rfl
  · refine goT ?_
    exact at_ret1 rfl rfl ⟨rfl, e0⟩
  · refine goT ?_
    exact at_ret1 rfl rfl ⟨rfl, e0⟩
  · refine goT ?_
    exact at_ret1 rfl rfl ⟨rfl, e0⟩
  · refine goT ?_
    exact at_ret1 rfl rfl ⟨rfl, e0⟩
  · refine goT ?_
    exact at_ret1 rfl rfl ⟨rfl, e0⟩
  · refine goT ?_
    exact at_ret1 rfl rfl ⟨rfl, e0⟩
  · refine goT ?_
    exact at_ret1 rfl rfl ⟨rfl, e0⟩
  · refine goT ?_
    exact at_ret1 rfl rfl ⟨rfl, e0⟩
def SxP (l : Ss) : Prop := ∀ (tl : List Int) (d : Nat) v F w, okL tl d l = true → tl.length ≤ 6 → StS w v l F → cntL l ≤ 1000 → Ret Tryd.prog 49 [v] w fun r w' => r = sV (lsT l) ∧ Ext w w'
/-- What stands behind the region that appends a text. -/
def SxIn (e : TypeId) (B : Nat) (base : Env) (v : Value) (dl : Ss) (q : Tx) (w : World) (τ : Env) (w' : World) : Prop :=
  ∃ v', τ = (3, v') :: base ∧ w'.ownsRow B e 1 v' (dl.len + 1) ((itemsT dl).map sV ++ [sV q]) ∧ Chg v.ownBlock.toList w w'
theorem stmtsText_all (l : Ss) : SxP l := Ss.strong (fun l ih => by
  intro tl d v F w hok htl h hn
  obtain ⟨A, c, rfl, hl, _⟩ := h.slice
  have hst := restS_start h
  unfold maxI at hl
  have hlc := len_le_cntL l
  have hbd := lsT_bound l
  refine enter Tryd.func49 rfl Tryd.ntmps49 rfl rfl ?_
  refine goT ?_
  refine W_loop (α := Nat × Ss × Ss × Value) (fun p => [(3, p.2.2.2), (6, .slice A l.len c), (7, .int .i64 (l.len : Int)), (8, .int .i64 (p.1 : Int))])
    (fun p w' => p.2.1.app p.2.2.1 = l ∧ p.2.1.len = p.1 ∧ RestS w A p.1 p.2.2.1 ∧ okL tl d p.2.2.1 = true ∧ w'.ownsRow w.heap.size 9 1 p.2.2.2 p.2.1.len ((itemsT p.2.1).map sV) ∧ Ext w w') (fun p => p.2.2.1.len) (0, .nil, l, _) (by repeat (first | exact True.intro | refine And.intro rfl ?_))
    ⟨rfl, rfl, hst, hok, World.ownsRow_nil _ _ _ _, Ext.refl _⟩ ?_
  rintro ⟨i, dl, r, v⟩ w1 ⟨hap, hdl, hr, hokr, hrow, he⟩
  simp only at hap hdl hr hokr hrow he ⊢
  have hlen : dl.len + r.len = l.len := by rw [← hap, Ss.len_app]
  have hcn : cntL dl + cntL r = cntL l := by rw [← hap, cntL_app]
  have hvlt := hrow.lt
  refine goT ?_
  refine Z52 rfl (fun hc => ?_) (fun hc => ?_)
  · have hlt : i < l.len := by simpa using hc
    cases r with
    | nil => simp only [Ss.len] at hlen; omega
    | cons op x y n t e r =>
      obtain ⟨b, o, vt, ve, Ft, Fe, rfl, hcells, hT, hE, hrest⟩ := restS_cons hr
      simp only [Ss.len, cntL] at hlen hcn
      rw [okL_cons, Bool.and_eq_true] at hokr
      have oT : vt.oneCell' = true := by
        obtain ⟨_, _, rfl, _⟩ := hT
        rfl
      have oE : ve.oneCell' = true := by
        obtain ⟨_, _, rfl, _⟩ := hE
        rfl
      have hbt := lsT_bound t
      have hbe := lsT_bound e
      have hit : (itemsT (dl.snoc op x y n t e)) = itemsT dl ++ [itT op x y n (lsT t) (lsT e)] := by unfold Ss.snoc; rw [itemsT_app]; rfl
      refine goT ?_
      refine Z83 rfl rfl rfl hlt ?_
      refine WO_loadS rfl rfl (fun j u hu => cell_ext (hcells j u hu) he) ?_
      refine WO_alloc fun w2 hb2 e2 z2 => ?_
      refine WO_storeS (k := 6) (vs := [.int .i64 op, .int .i64 x, .int .i64 y, .int .i64 n, vt, ve]) rfl rfl rfl (by intro u hu; simp at hu; rcases hu with rfl | rfl | rfl | rfl | rfl | rfl <;> first | rfl | assumption) hb2 (by decide) fun w3 hs o3 => ?_
      replace hs : Blk w3 w1.heap.size [.int .i64 op, .int .i64 x, .int .i64 y, .int .i64 n, vt, ve] _ := hs
      have e3 : Ext w1 w3 := e2.only o3 (Nat.le_refl _)
      have hrow3 := ownsRow_ext hrow e3
      have he3 := he.trans e3
      have s3 := hs.lt
      have hokS := hokr.1
      unfold okS at hokS
      by_cases h9 : op = 9
      · subst h9
        rw [if_pos (.inl rfl), Bool.and_eq_true, Bool.and_eq_true] at hokS
        have hq : itT 9 x y n (lsT t) (lsT e) = [105, 102, 123] ++ lsT t ++ [125, 123] ++ lsT e ++ [125] := by simp [itT, wIf, wMid]
        refine goT ?_
        refine W_held0E v.ownBlock.toList (SxIn 9 w.heap.size [(6, .slice (some ⟨b, o, none⟩) l.len c), (7, .int .i64 (l.len : Int)), (8, .int .i64 (i : Int))] v dl (itT 9 x y n (lsT t) (lsT e)) w3) (by kernel_rfl) (fun ws es hS => ?_) (fun τ w8 hR => ?_)
        · have hss := hs.ext es
          have hvno : w1.heap.size ∉ v.ownBlock.toList := fun hm => by have := hvlt _ (by simpa using hm); omega
          first | refine Z82 0 rfl (by kernel_rfl) (by kernel_rfl) (by kernel_rfl) (by assumption) (fun w' hw' => Z56 rfl) ?_ | refine Z82 0 rfl (by kernel_rfl) (by kernel_rfl) (by kernel_rfl) (by assumption) (fun w' hw' => Z63 rfl rfl) ?_ | refine Z82 0 rfl (by kernel_rfl) (by kernel_rfl) (by kernel_rfl) (by assumption) (fun w' hw' => Z64 rfl rfl) ?_ | refine Z82 0 rfl (by kernel_rfl) (by kernel_rfl) (by kernel_rfl) (by assumption) (fun w' hw' => Z75 rfl rfl (by omega)) ?_ | refine Z82 0 rfl (by kernel_rfl) (by kernel_rfl) (by kernel_rfl) (by assumption) (fun w' hw' => Z72 rfl) ?_ | refine Z82 0 rfl (by kernel_rfl) (by kernel_rfl) (by kernel_rfl) (by assumption) (fun w' hw' => Z69 rfl rfl rfl (by omega)) ?_ | refine Z82 0 rfl (by kernel_rfl) (by kernel_rfl) (by kernel_rfl) (by assumption) (fun w' hw' => Z30 rfl (by rfl) (by simp only [Z84, List.set_cons_zero, List.set_cons_succ]; rfl)) ?_
          first | refine Z82 1 rfl (by kernel_rfl) (by kernel_rfl) (by kernel_rfl) (by assumption) (fun w' hw' => Z56 rfl) ?_ | refine Z82 1 rfl (by kernel_rfl) (by kernel_rfl) (by kernel_rfl) (by assumption) (fun w' hw' => Z63 rfl rfl) ?_ | refine Z82 1 rfl (by kernel_rfl) (by kernel_rfl) (by kernel_rfl) (by assumption) (fun w' hw' => Z64 rfl rfl) ?_ | refine Z82 1 rfl (by kernel_rfl) (by kernel_rfl) (by kernel_rfl) (by assumption) (fun w' hw' => Z75 rfl rfl (by omega)) ?_ | refine Z82 1 rfl (by kernel_rfl) (by kernel_rfl) (by kernel_rfl) (by assumption) (fun w' hw' => Z72 rfl) ?_ | refine Z82 1 rfl (by kernel_rfl) (by kernel_rfl) (by kernel_rfl) (by assumption) (fun w' hw' => Z69 rfl rfl rfl (by omega)) ?_ | refine Z82 1 rfl (by kernel_rfl) (by kernel_rfl) (by kernel_rfl) (by assumption) (fun w' hw' => Z30 rfl (by rfl) (by simp only [Z84, List.set_cons_zero, List.set_cons_succ]; rfl)) ?_
          refine Z82 2 rfl (by kernel_rfl) (by kernel_rfl) (by kernel_rfl) (by assumption) (fun w' hw' => Z66 rfl (hss.chg hw' hvno) rfl) ?_
          first | refine Z82 6 rfl (by kernel_rfl) (by kernel_rfl) (by kernel_rfl) (by assumption) (fun w' hw' => Z56 rfl) ?_ | refine Z82 6 rfl (by kernel_rfl) (by kernel_rfl) (by kernel_rfl) (by assumption) (fun w' hw' => Z63 rfl rfl) ?_ | refine Z82 6 rfl (by kernel_rfl) (by kernel_rfl) (by kernel_rfl) (by assumption) (fun w' hw' => Z64 rfl rfl) ?_ | refine Z82 6 rfl (by kernel_rfl) (by kernel_rfl) (by kernel_rfl) (by assumption) (fun w' hw' => Z75 rfl rfl (by omega)) ?_ | refine Z82 6 rfl (by kernel_rfl) (by kernel_rfl) (by kernel_rfl) (by assumption) (fun w' hw' => Z72 rfl) ?_ | refine Z82 6 rfl (by kernel_rfl) (by kernel_rfl) (by kernel_rfl) (by assumption) (fun w' hw' => Z69 rfl rfl rfl (by omega)) ?_ | refine Z82 6 rfl (by kernel_rfl) (by kernel_rfl) (by kernel_rfl) (by assumption) (fun w' hw' => Z30 rfl (by rfl) (by simp only [Z84, List.set_cons_zero, List.set_cons_succ]; rfl)) ?_
          refine Z82 7 rfl (by kernel_rfl) (by kernel_rfl) (by kernel_rfl) (by assumption) (fun w' hw' => Z66 rfl (hss.chg hw' hvno) rfl) ?_
          refine WX_call 3 rfl (by kernel_rfl) rfl (ih t (by omega) tl (d - 1) vt Ft ws hokS.1.2 htl (hT.ext (he3.trans es)) (by omega)) ?_
          rintro _ wa ⟨rfl, ea⟩
          have Sa : Chg v.ownBlock.toList ws wa := ea.chg _
          refine ⟨Sa, ?_⟩
          refine Z82 4 rfl (by kernel_rfl) (by kernel_rfl) (by kernel_rfl) (by assumption) (fun w' hw' => Z87 rfl rfl (by simp; omega)) ?_
          refine Z82 5 rfl (by kernel_rfl) (by kernel_rfl) (by kernel_rfl) (by assumption) (fun w' hw' => Z87 rfl rfl (by simp; omega)) ?_
          refine WX_call 8 rfl (by kernel_rfl) rfl (ih e (by omega) tl (d - 1) ve Fe wa hokS.2 htl (hE.ext ((he3.trans es).trans ea)) (by omega)) ?_
          rintro _ wb ⟨rfl, eb⟩
          have eab := ea.trans eb
          have Sb : Chg v.ownBlock.toList ws wb := eab.chg _
          refine ⟨Sb, ?_⟩
          refine Z82 9 rfl (by kernel_rfl) (by kernel_rfl) (by kernel_rfl) (by assumption) (fun w' hw' => Z87 rfl rfl (by simp; omega)) ?_
          refine Z82 10 rfl (by kernel_rfl) (by kernel_rfl) (by kernel_rfl) (by assumption) (fun w' hw' => Z87 rfl rfl (by simp; omega)) ?_
          rw [← hq]
          refine WH_one 11 rfl (by kernel_rfl) (WO_build (e := 9) (k := 1) [.tmp 31] (vs := [sV (itT 9 x y n (lsT t) (lsT e))]) (cs := [sV (itT 9 x y n (lsT t) (lsT e))]) rfl rfl rfl (by decide) (by decide) (by simp [Value.cells]) (by simp [Value.cells]) fun wc hbc ec zc => Z31 (at_held ((eab.trans ec).chg _) ?_))
          refine WH_one 12 rfl (by kernel_rfl) (WO_append (B := w.heap.size) (k := 1) (m := dl.len) (mm := 1) (news := [sV (itT 9 x y n (lsT t) (lsT e))]) rfl (ownsRow_ext hrow3 (es.trans (eab.trans ec))) rfl rfl (fun j u hu => by rw [Nat.zero_add]; exact hbc.cell hu) (by intro u hu; simp at hu; subst hu; rfl) (((he3.trans es).trans (eab.trans ec)).size) (by decide) (by omega) (by decide) fun v' wd k1 k2 k3 => Z31 (at_held (((eab.trans ec).chg _).trans ((grown_chg k2).mono (by simp))) ?_))
          have Sd : Chg v.ownBlock.toList ws wd := ((eab.trans ec).chg _).trans ((grown_chg k2).mono (by simp))
          first | refine Z82 13 rfl (by kernel_rfl) (by kernel_rfl) (by kernel_rfl) (by assumption) (fun w' hw' => Z56 rfl) ?_ | refine Z82 13 rfl (by kernel_rfl) (by kernel_rfl) (by kernel_rfl) (by assumption) (fun w' hw' => Z63 rfl rfl) ?_ | refine Z82 13 rfl (by kernel_rfl) (by kernel_rfl) (by kernel_rfl) (by assumption) (fun w' hw' => Z64 rfl rfl) ?_ | refine Z82 13 rfl (by kernel_rfl) (by kernel_rfl) (by kernel_rfl) (by assumption) (fun w' hw' => Z75 rfl rfl (by omega)) ?_ | refine Z82 13 rfl (by kernel_rfl) (by kernel_rfl) (by kernel_rfl) (by assumption) (fun w' hw' => Z72 rfl) ?_ | refine Z82 13 rfl (by kernel_rfl) (by kernel_rfl) (by kernel_rfl) (by assumption) (fun w' hw' => Z69 rfl rfl rfl (by omega)) ?_ | refine Z82 13 rfl (by kernel_rfl) (by kernel_rfl) (by kernel_rfl) (by assumption) (fun w' hw' => Z30 rfl (by rfl) (by simp only [Z84, List.set_cons_zero, List.set_cons_succ]; rfl)) ?_
          exact WH_doneE (by kernel_rfl) (by repeat (first | exact True.intro | refine And.intro rfl ?_)) ⟨v', rfl, k1, (es.chg _).trans Sd⟩
        · obtain ⟨v', rfl, k1, c8⟩ := hR
          have e8 : Ext w w8 := c8.ext_of he3 (fun z hz => by have := hvlt z (by simpa using hz); omega)
          refine goT ?_
          exact at_loop (i + 1, dl.snoc 9 x y n t e, r, v') (by repeat (first | exact True.intro | refine And.intro rfl ?_)) ⟨by rw [Ss.snoc_app]; exact hap, by simp only; rw [Ss.len_snoc]; omega, hrest, hokr.2, by simp only; rw [hit, Ss.len_snoc, List.map_append]; exact k1, e8⟩ (by simp only [Ss.len]; omega)
      · by_cases h10 : op = 10
        · subst h10
          rw [if_pos (.inr rfl), Bool.and_eq_true, Bool.and_eq_true] at hokS
          have hq : itT 10 x y n (lsT t) (lsT e) = [108, 111, 111, 112, 123] ++ lsT t ++ [125] := by simp [itT, wLoop]
          refine goT ?_
          refine WO_call rfl (ih t (by omega) tl (d - 1) vt Ft w3 hokS.1.2 htl (hT.ext he3) (by omega)) ?_
          rintro _ w4 ⟨rfl, e4⟩
          refine goT ?_
          rw [← hq]
          refine WO_app1 (m := dl.len) (u := sV (itT 10 x y n (lsT t) (lsT e))) rfl rfl (by intro u hu; simp [Value.cells] at hu; subst hu; rfl) rfl (ownsRow_ext hrow3 e4) (he3.trans e4).size rfl (by omega) (by decide) fun v' w5 k1 k2 k3 => ?_
          have e5 : Ext w w5 := ext_grown (he3.trans e4) k2 (fun z hz => by have := hvlt z hz; omega)
          refine goT ?_
          exact at_loop (i + 1, dl.snoc 10 x y n t e, r, v') (by repeat (first | exact True.intro | refine And.intro rfl ?_)) ⟨by rw [Ss.snoc_app]; exact hap, by simp only; rw [Ss.len_snoc]; omega, hrest, hokr.2, by simp only; rw [hit, Ss.len_snoc, List.map_append]; exact k1, e5⟩ (by simp only [Ss.len]; omega)
        · rw [if_neg (by omega), decide_eq_true_eq] at hokS
          obtain ⟨a1, a2, a3, a4, a5, a6⟩ := simple_form hokS htl
          have hq : itT op x y n (lsT t) (lsT e) = simT op x y n := by unfold itT; rw [if_neg h9, if_neg h10]
          refine goT ?_
          rw [show (op == 9) = false from by simp [h9]]
          refine goT ?_
          rw [show (op == 10) = false from by simp [h10]]
          refine goT ?_
          refine WO_loadSB rfl hs rfl ?_
          refine WO_call rfl (simpleText_ret op x y n vt ve w3 a1 a2 (by omega) (by omega)) ?_
          rintro _ w4 ⟨rfl, e4⟩
          rw [← hq]
          refine WO_app1 (m := dl.len) (u := sV (itT op x y n (lsT t) (lsT e))) rfl rfl (by intro u hu; simp [Value.cells] at hu; subst hu; rfl) rfl (ownsRow_ext hrow3 e4) (he3.trans e4).size rfl (by omega) (by decide) fun v' w5 k1 k2 k3 => ?_
          have e5 : Ext w w5 := ext_grown (he3.trans e4) k2 (fun z hz => by have := hvlt z hz; omega)
          refine goT ?_
          exact at_loop (i + 1, dl.snoc op x y n t e, r, v') (by repeat (first | exact True.intro | refine And.intro rfl ?_)) ⟨by rw [Ss.snoc_app]; exact hap, by simp only; rw [Ss.len_snoc]; omega, hrest, hokr.2, by simp only; rw [hit, Ss.len_snoc, List.map_append]; exact k1, e5⟩ (by simp only [Ss.len]; omega)
  · have hge : i = l.len := by simp at hc; omega
    have hr0 : r = .nil := Ss.len_zero (by omega)
    subst hr0
    rw [Ss.app_nil] at hap
    subst hap
    refine goT ?_
    refine WO_call rfl (join_ret 9 w.heap.size v (itemsT dl) w1 (by rw [itemsT_len]; exact hrow) (by rw [itemsT_len]; omega) (by rw [itemsT_join]; omega)) ?_
    rintro _ w2 ⟨rfl, e2⟩
    rw [itemsT_join]
    refine goT ?_
    exact at_ret1 rfl rfl ⟨rfl, he.trans e2⟩) l
theorem okT_atF {tl : List Int} (h : okT tl = true) {i : Nat} (hi : i < tl.length) : 1 ≤ tl[i] ∧ tl[i] ≤ 4 := by
  unfold okT at h
  rw [Bool.and_eq_true, List.all_eq_true] at h
  simpa using h.2 _ (List.getElem_mem hi)
theorem programText_ret (tv bv : Value) (tl : List Int) (l : Ss) (Ft F : List Nat) (w : World) (ht : IntF w tv tl Ft) (h : StS w bv l F) (hv : validP tl l = true) :
    Ret Tryd.prog 27 [prV tv bv] w fun r w' => r = sV (progT tl l) ∧ Ext w w' := by
  unfold validP at hv
  rw [Bool.and_eq_true, Bool.and_eq_true, decide_eq_true_eq] at hv
  obtain ⟨hT, hL, hC⟩ := hv
  have htl : tl.length ≤ 6 := by
    unfold okT at hT
    rw [Bool.and_eq_true] at hT
    simpa using hT.1
  obtain ⟨A, c, rfl, hl, hx⟩ := ht
  refine enter Tryd.func27 rfl Tryd.ntmps27 rfl rfl ?_
  refine Z43 (Z44 (WO_box rfl fun w1 hs e1 z1 => ?_))
  replace hs : Blk w1 w.heap.size [.slice A tl.length c, bv] _ := hs
  refine goT ?_
  refine W_loop (α := Nat) (fun i => [(1, .pointer (some ⟨w.heap.size, 0, none⟩)), (3, sV ((tl.take i).map tyCh)), (7, .slice A tl.length c), (8, .int .i64 (tl.length : Int)), (9, .int .i64 (i : Int))])
    (fun i w' => i ≤ tl.length ∧ w' = w1) (fun i => tl.length - i) 0 (by repeat (first | exact True.intro | refine And.intro rfl ?_)) ⟨Nat.zero_le _, rfl⟩ ?_
  rintro i w2 ⟨hi, rfl⟩
  refine goT ?_
  refine Z52 rfl (fun hc => ?_) (fun hc => ?_)
  · have hlt : i < tl.length := by simpa using hc
    obtain ⟨b, o, rfl, _, hcell⟩ := int_at hx hlt
    have hr := okT_atF hT hlt
    have hcell := cell_ext hcell e1
    refine goT ?_
    refine Z83 rfl rfl rfl hlt ?_
    refine Z11 rfl hcell ?_
    refine goT ?_
    obtain ⟨k, hk⟩ : ∃ k : Nat, tl[i] = (k : Int) + 1 := ⟨(tl[i] - 1).toNat, by omega⟩
    refine Z13 (q_strSl (s := [105, 98, 114, 109]) (l := k) (h := k + 1) rfl rfl rfl (by omega) (by omega) (by omega) (by simp; omega)) ?_
    have hch : (([105, 98, 114, 109] : Tx).drop k).take (k + 1 - k) = [tyCh tl[i]] := by
      rw [hk]
      have h5 : k = 0 ∨ k = 1 ∨ k = 2 ∨ k = 3 := by omega
      rcases h5 with rfl | rfl | rfl | rfl <;> rfl
    rw [hch]
    refine Z13 (Z87 rfl rfl (by simp; omega)) ?_
    have hsn : (tl.take i).map tyCh ++ [tyCh tl[i]] = (tl.take (i + 1)).map tyCh := by rw [List.take_succ_eq_append_getElem hlt, List.map_append]; rfl
    rw [hsn]
    refine goT ?_
    exact at_loop (i + 1) (by repeat (first | exact True.intro | refine And.intro rfl ?_)) ⟨hlt, rfl⟩ (by omega)
  · have hge : i = tl.length := by simp at hc; omega
    subst hge
    rw [List.take_length]
    have hb := lsT_bound l
    refine goT ?_
    refine Z13 (Z87 rfl rfl (by simp; omega)) ?_
    refine goT ?_
    refine WO_call rfl (stmtsText_all l tl 4 bv F _ hL htl (h.ext e1) (by omega)) ?_
    rintro _ w3 ⟨rfl, e3⟩
    refine Z13 (Z87 rfl rfl (by simp; omega)) ?_
    refine goT ?_
    refine at_ret1 rfl rfl ⟨?_, e1.trans e3⟩
    exact congrArg sV (by simp [progT])
end Go.Proofs.YteonnoijdnjpdaaDoor
