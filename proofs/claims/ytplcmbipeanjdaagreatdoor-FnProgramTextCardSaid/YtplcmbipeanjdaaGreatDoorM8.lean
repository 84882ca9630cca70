/-
  What is proved here: the text that the program's writer of programs returns; the program's writer and the reference's writer of programs return the same text; what the reference's parser does with texts, said of lists of bytes: it reads no further than the text, and reads a valid program back from its text. No function of the program stands here.
-/
import Derived.Test.YtplcmbipeanjdaaGreatDoorM6
import Derived.Test.YtplcmbipeanjdaaGreatDoorM7
import Derived.Test.YtplcmbipeanjdaaGreatDoorM5
namespace Go.Proofs.YtplcmbipeanjdaaGreatDoor
set_option linter.unusedVariables false
set_option linter.unusedSimpArgs false
set_option linter.unnecessarySimpa false
open Go.RowKit

theorem itoa_ret (n : Int) (w : World) (hn : 0 ≤ n ∧ n ≤ 9) : Ret Tryz.prog 71 [.int .i64 n] w fun r w' => r = sV [dgv n] ∧ w' = w := by
  obtain ⟨k, rfl⟩ : ∃ k : Nat, n = k := ⟨n.toNat, by omega⟩
  refine Calls.mono (Tryz.strconv_Itoa_small k (by omega) w) fun e w' h => ⟨_, h.1, ?_, h.2⟩
  rw [show Lib.decDigits k = [UInt8.ofNat (48 + k)] from by unfold Lib.decDigits; rw [dif_pos (by omega)]]
  rfl
theorem joinTail_one (x : Tx) (r : List Tx) : Lib.joinTail [59] (x :: r) = 59 :: (x ++ Lib.joinTail [59] r) := by simp [Lib.joinTail]
/-- The texts of the statements of a list. -/
def itemsT : Ss → List Tx
  | .nil => []
  | .cons op x y n t e r => itT op x y n (lsT t) (lsT e) :: itemsT r
theorem itemsT_len : ∀ l : Ss, (itemsT l).length = l.len
  | .nil => rfl
  | .cons op x y n t e r => by simp [itemsT, Ss.len, itemsT_len r]
theorem itemsT_app : ∀ a b : Ss, itemsT (a.app b) = itemsT a ++ itemsT b
  | .nil, _ => rfl
  | .cons op x y n t e r, b => by simp [itemsT, Ss.app, itemsT_app r b]
theorem itemsT_tail : ∀ l : Ss, Lib.joinTail [59] (itemsT l) = if l.len = 0 then [] else 59 :: lsT l
  | .nil => rfl
  | .cons op x y n t e r => by
    simp only [itemsT]
    rw [joinTail_one, itemsT_tail r, if_neg (show ¬ (Ss.cons op x y n t e r).len = 0 by simp [Ss.len])]
    rfl
theorem itemsT_join : ∀ l : Ss, Lib.join (itemsT l) [59] = lsT l
  | .nil => rfl
  | .cons op x y n t e r => by
    simp only [itemsT]
    rw [Lib.join_cons, itemsT_tail r]
    rfl
theorem sV_bytes (t : Tx) : (⟨t.toArray⟩ : ByteArray).data.toList = t := by simp
theorem join_ret (e : TypeId) (B : Nat) (v : Value) (l : List Tx) (w : World) (h : w.ownsRow B e 1 v l.length (l.map sV)) (hl : l.length ≤ 1000000) (hj : (Lib.join l [59]).length ≤ 1000000) :
    Ret Tryz.prog 53 [v, sV [59]] w fun r w' => r = sV (Lib.join l [59]) ∧ Ext w w' := by
  obtain ⟨A, c, rfl, hlc, _⟩ := ownsRow_slice h
  by_cases h0 : l.length = 0
  · have := List.eq_nil_of_length_eq_zero h0
    subst this
    exact Calls.mono (Tryz.strings_Join_none A c ⟨#[59]⟩ w) fun e w' h => ⟨_, h.1, rfl, by rw [h.2]; exact Ext.refl _⟩
  · obtain ⟨g, cap, hv, hc⟩ := row_cells h (by omega)
    injection hv with hA _ hcc
    subst hA
    have hlt : g < w.heap.size := (h.lt g rfl).2
    have hm : (l.map fun t => (⟨t.toArray⟩ : ByteArray)).map (fun b => b.data.toList) = l := by
      rw [List.map_map]
      conv => rhs; rw [← List.map_id l]
      exact List.map_congr_left fun t _ => by simp
    have hk := Tryz.strings_Join g 0 c (l.map fun t => (⟨t.toArray⟩ : ByteArray)) ⟨#[59]⟩ w (fun j x hx => ?_) hlt (by simp; omega) (by simpa using hlc) (by rw [hm]; exact Nat.le_trans hj (by decide))
    · rw [hm] at hk
      rw [List.length_map] at hk
      exact Calls.mono hk fun e w' h => ⟨_, h.1, rfl, h.2⟩
    · rw [List.getElem?_map] at hx
      refine hc j _ ?_
      rw [List.getElem?_map]
      cases hq : l[j]? with
      | none => rw [hq] at hx; cases hx
      | some t => rw [hq] at hx; cases hx; rfl
theorem letter_ret (v : Int) (w : World) (hv : 0 ≤ v ∧ v ≤ 100) : Ret Tryz.prog 70 [.int .i64 v] w fun r w' => r = sV [chv v] ∧ Ext w w' := by
  refine enter Tryz.func70 rfl Tryz.ntmps70 rfl rfl ?_
  refine goT ?_
  refine Z13 (q_toByte rfl (by omega)) ?_
  refine WO_byteStr (e := 5) (b := chv v) rfl (by rw [chv_val hv]; omega) fun w1 e1 z1 => ?_
  refine goT ?_
  exact at_ret1 rfl rfl ⟨rfl, e1⟩
theorem simpleText_ret (op x y n : Int) (vt ve : Value) (w : World) (hop : 1 ≤ op ∧ op ≤ 8) (hx : 0 ≤ x ∧ x < 6) (hy : 0 ≤ y ∧ y < 6) (hn : 0 ≤ n ∧ n ≤ 9) : Ret Tryz.prog 52 [stV op x y n vt ve] w fun r w' => r = sV (simT op x y n) ∧ Ext w w' := by
  refine enter Tryz.func52 rfl Tryz.ntmps52 rfl rfl ?_
  refine Z43 (Z44 (WO_box rfl fun w1 hs e1 z1 => ?_))
  replace hs : Blk w1 w.heap.size [.int .i64 op, .int .i64 x, .int .i64 y, .int .i64 n, vt, ve] _ := hs
  refine goT ?_
  refine Z54 (by kernel_rfl) (by kernel_rfl) ?_
  repeat' (first | refine Z55 (Z56 rfl) ?_ | (refine Z57 ?_; first | refine Z58 rfl rfl (by decide) ?_ | refine Z59 rfl rfl (by decide) ?_ | refine Z60 rfl rfl ?_ | ((refine Z61 rfl rfl (fun c' hc' => ?_)); cases c' <;> (try simp only [decide_eq_true_eq, decide_eq_false_iff_not, beq_iff_eq, beq_eq_false_iff_ne, bne_iff_ne, bne_eq_false_iff_eq, ne_eq, gt_iff_lt, ge_iff_le, Int.not_lt, Int.not_le, Bool.not_eq_true', Bool.not_eq_false', Bool.not_true, Bool.not_false, reduceCtorEq, Decidable.not_not, not_true_eq_false, Bool.true_eq_false, Bool.false_eq_true] at hc') <;> (try (exfalso; omega)))) | (refine Z62 ?_; first | refine Z55 (Z63 rfl rfl) ?_ | refine Z55 (Z64 rfl rfl) ?_) | (refine Z65 ?_; first | refine Z55 (Z66 rfl (by assumption) (by rfl)) ?_ | refine Z55 (Z67 rfl (by assumption)) ?_) | (refine Z68 ?_; refine Z55 (Z69 rfl rfl rfl (by omega)) ?_) | (refine Z70 ?_; first | refine Z55 (Z14 rfl (by decide) rfl) ?_ | refine Z55 (Z15 rfl (by decide) rfl) ?_) | (refine Z71 ?_; first | refine Z55 (Z72 rfl) ?_ | refine Z55 (Z73 rfl) ?_) | (refine Z74 ?_; first | refine Z55 (Z75 rfl rfl (by omega)) ?_ | refine Z55 (Z76 rfl rfl (by omega)) ?_ | refine Z55 (Z77 rfl rfl (by omega)) ?_ | refine Z55 (Z78 rfl rfl (by omega) (by omega)) ?_ | refine Z55 (Z79 rfl rfl (by omega) (by omega) (by omega)) ?_ | refine Z55 (Z25 rfl rfl) ?_ | refine Z55 (Z26 rfl rfl) ?_) | (refine Z80 ?_; refine Z55 (Z28 rfl (Z53 ⟨by omega, by omega⟩)) ?_) | refine Z81 fun w' hw' => ?_)
  refine WQ_call rfl (fun w' hw' => letter_ret x w' (by omega)) ?_
  repeat' (first | refine Z55 (Z56 rfl) ?_ | (refine Z57 ?_; first | refine Z58 rfl rfl (by decide) ?_ | refine Z59 rfl rfl (by decide) ?_ | refine Z60 rfl rfl ?_ | ((refine Z61 rfl rfl (fun c' hc' => ?_)); cases c' <;> (try simp only [decide_eq_true_eq, decide_eq_false_iff_not, beq_iff_eq, beq_eq_false_iff_ne, bne_iff_ne, bne_eq_false_iff_eq, ne_eq, gt_iff_lt, ge_iff_le, Int.not_lt, Int.not_le, Bool.not_eq_true', Bool.not_eq_false', Bool.not_true, Bool.not_false, reduceCtorEq, Decidable.not_not, not_true_eq_false, Bool.true_eq_false, Bool.false_eq_true] at hc') <;> (try (exfalso; omega)))) | (refine Z62 ?_; first | refine Z55 (Z63 rfl rfl) ?_ | refine Z55 (Z64 rfl rfl) ?_) | (refine Z65 ?_; first | refine Z55 (Z66 rfl (by assumption) (by rfl)) ?_ | refine Z55 (Z67 rfl (by assumption)) ?_) | (refine Z68 ?_; refine Z55 (Z69 rfl rfl rfl (by omega)) ?_) | (refine Z70 ?_; first | refine Z55 (Z14 rfl (by decide) rfl) ?_ | refine Z55 (Z15 rfl (by decide) rfl) ?_) | (refine Z71 ?_; first | refine Z55 (Z72 rfl) ?_ | refine Z55 (Z73 rfl) ?_) | (refine Z74 ?_; first | refine Z55 (Z75 rfl rfl (by omega)) ?_ | refine Z55 (Z76 rfl rfl (by omega)) ?_ | refine Z55 (Z77 rfl rfl (by omega)) ?_ | refine Z55 (Z78 rfl rfl (by omega) (by omega)) ?_ | refine Z55 (Z79 rfl rfl (by omega) (by omega) (by omega)) ?_ | refine Z55 (Z25 rfl rfl) ?_ | refine Z55 (Z26 rfl rfl) ?_) | (refine Z80 ?_; refine Z55 (Z28 rfl (Z53 ⟨by omega, by omega⟩)) ?_) | refine Z81 fun w' hw' => ?_)
  refine WQ_call rfl (fun w' hw' => letter_ret y w' (by omega)) ?_
  repeat' (first | refine Z55 (Z56 rfl) ?_ | (refine Z57 ?_; first | refine Z58 rfl rfl (by decide) ?_ | refine Z59 rfl rfl (by decide) ?_ | refine Z60 rfl rfl ?_ | ((refine Z61 rfl rfl (fun c' hc' => ?_)); cases c' <;> (try simp only [decide_eq_true_eq, decide_eq_false_iff_not, beq_iff_eq, beq_eq_false_iff_ne, bne_iff_ne, bne_eq_false_iff_eq, ne_eq, gt_iff_lt, ge_iff_le, Int.not_lt, Int.not_le, Bool.not_eq_true', Bool.not_eq_false', Bool.not_true, Bool.not_false, reduceCtorEq, Decidable.not_not, not_true_eq_false, Bool.true_eq_false, Bool.false_eq_true] at hc') <;> (try (exfalso; omega)))) | (refine Z62 ?_; first | refine Z55 (Z63 rfl rfl) ?_ | refine Z55 (Z64 rfl rfl) ?_) | (refine Z65 ?_; first | refine Z55 (Z66 rfl (by assumption) (by rfl)) ?_ | refine Z55 (Z67 rfl (by assumption)) ?_) | (refine Z68 ?_; refine Z55 (Z69 rfl rfl rfl (by omega)) ?_) | (refine Z70 ?_; first | refine Z55 (Z14 rfl (by decide) rfl) ?_ | refine Z55 (Z15 rfl (by decide) rfl) ?_) | (refine Z71 ?_; first | refine Z55 (Z72 rfl) ?_ | refine Z55 (Z73 rfl) ?_) | (refine Z74 ?_; first | refine Z55 (Z75 rfl rfl (by omega)) ?_ | refine Z55 (Z76 rfl rfl (by omega)) ?_ | refine Z55 (Z77 rfl rfl (by omega)) ?_ | refine Z55 (Z78 rfl rfl (by omega) (by omega)) ?_ | refine Z55 (Z79 rfl rfl (by omega) (by omega) (by omega)) ?_ | refine Z55 (Z25 rfl rfl) ?_ | refine Z55 (Z26 rfl rfl) ?_) | (refine Z80 ?_; refine Z55 (Z28 rfl (Z53 ⟨by omega, by omega⟩)) ?_) | refine Z81 fun w' hw' => ?_)
  refine WQ_call rfl (fun w' hw' => (itoa_ret n w' (by omega)).mono fun r w2 h => ⟨h.1, by rw [h.2]; exact Ext.refl _⟩) ?_
  repeat' (first | refine Z55 (Z56 rfl) ?_ | (refine Z57 ?_; first | refine Z58 rfl rfl (by decide) ?_ | refine Z59 rfl rfl (by decide) ?_ | refine Z60 rfl rfl ?_ | ((refine Z61 rfl rfl (fun c' hc' => ?_)); cases c' <;> (try simp only [decide_eq_true_eq, decide_eq_false_iff_not, beq_iff_eq, beq_eq_false_iff_ne, bne_iff_ne, bne_eq_false_iff_eq, ne_eq, gt_iff_lt, ge_iff_le, Int.not_lt, Int.not_le, Bool.not_eq_true', Bool.not_eq_false', Bool.not_true, Bool.not_false, reduceCtorEq, Decidable.not_not, not_true_eq_false, Bool.true_eq_false, Bool.false_eq_true] at hc') <;> (try (exfalso; omega)))) | (refine Z62 ?_; first | refine Z55 (Z63 rfl rfl) ?_ | refine Z55 (Z64 rfl rfl) ?_) | (refine Z65 ?_; first | refine Z55 (Z66 rfl (by assumption) (by rfl)) ?_ | refine Z55 (Z67 rfl (by assumption)) ?_) | (refine Z68 ?_; refine Z55 (Z69 rfl rfl rfl (by omega)) ?_) | (refine Z70 ?_; first | refine Z55 (Z14 rfl (by decide) rfl) ?_ | refine Z55 (Z15 rfl (by decide) rfl) ?_) | (refine Z71 ?_; first | refine Z55 (Z72 rfl) ?_ | refine Z55 (Z73 rfl) ?_) | (refine Z74 ?_; first | refine Z55 (Z75 rfl rfl (by omega)) ?_ | refine Z55 (Z76 rfl rfl (by omega)) ?_ | refine Z55 (Z77 rfl rfl (by omega)) ?_ | refine Z55 (Z78 rfl rfl (by omega) (by omega)) ?_ | refine Z55 (Z79 rfl rfl (by omega) (by omega) (by omega)) ?_ | refine Z55 (Z25 rfl rfl) ?_ | refine Z55 (Z26 rfl rfl) ?_) | (refine Z80 ?_; refine Z55 (Z28 rfl (Z53 ⟨by omega, by omega⟩)) ?_) | refine Z81 fun w' hw' => ?_)
  have hs := hs.ext hw'
  have e0 := e1.trans hw'
  have hop' : op = 1 ∨ op = 2 ∨ op = 3 ∨ op = 4 ∨ op = 5 ∨ op = 6 ∨ op = 7 ∨ op = 8 := by omega
  rcases hop' with rfl | rfl | rfl | rfl | rfl | rfl | rfl | rfl
  · refine goT ?_
    exact at_ret1 rfl rfl ⟨rfl, e0⟩
  · refine goT ?_
    exact at_ret1 rfl rfl ⟨rfl, e0⟩
  · refine goT ?_
    exact at_ret1 rfl rfl ⟨rfl, e0⟩
  · refine goT ?_
    exact at_ret1 rfl rfl ⟨rfl, e0⟩
  · refine goT ?_
    exact at_ret1 rfl rfl ⟨rfl, e0⟩
  · refine goT ?_
    exact at_ret1 rfl rfl ⟨rfl, e0⟩
  · refine goT ?_
    exact at_ret1 rfl rfl ⟨rfl, e0⟩
  · refine goT ?_
    exact at_ret1 rfl rfl ⟨rfl, e0⟩
def SxP (l : Ss) : Prop := ∀ (tl : List Int) (d : Nat) v F w, okL tl d l = true → tl.length ≤ 6 → StS w v l F → cntL l ≤ 1000 → Ret Tryz.prog 31 [v] w fun r w' => r = sV (lsT l) ∧ Ext w w'
/-- What stands behind the region that appends a text. -/
def SxIn (e : TypeId) (B : Nat) (base : Env) (v : Value) (dl : Ss) (q : Tx) (w : World) (τ : Env) (w' : World) : Prop :=
  ∃ v', τ = (3, v') :: base ∧ w'.ownsRow B e 1 v' (dl.len + 1) ((itemsT dl).map sV ++ [sV q]) ∧ Chg v.ownBlock.toList w w'
theorem stmtsText_all (l : Ss) : SxP l := Ss.strong (fun l ih => by
  intro tl d v F w hok htl h hn
  obtain ⟨A, c, rfl, hl, _⟩ := h.slice
  have hst := restS_start h
  unfold maxI at hl
  have hlc := len_le_cntL l
  have hbd := lsT_bound l
  refine enter Tryz.func31 rfl Tryz.ntmps31 rfl rfl ?_
  refine goT ?_
  refine W_loop (α := Nat × Ss × Ss × Value) (fun p => [(3, p.2.2.2), (6, .slice A l.len c), (7, .int .i64 (l.len : Int)), (8, .int .i64 (p.1 : Int))])
    (fun p w' => p.2.1.app p.2.2.1 = l ∧ p.2.1.len = p.1 ∧ RestS w A p.1 p.2.2.1 ∧ okL tl d p.2.2.1 = true ∧ w'.ownsRow w.heap.size 9 1 p.2.2.2 p.2.1.len ((itemsT p.2.1).map sV) ∧ Ext w w') (fun p => p.2.2.1.len) (0, .nil, l, _) (by repeat (first | exact True.intro | refine And.intro rfl ?_))
    ⟨rfl, rfl, hst, hok, World.ownsRow_nil _ _ _ _, Ext.refl _⟩ ?_
  rintro ⟨i, dl, r, v⟩ w1 ⟨hap, hdl, hr, hokr, hrow, he⟩
  simp only at hap hdl hr hokr hrow he ⊢
  have hlen : dl.len + r.len = l.len := by rw [← hap, Ss.len_app]
  have hcn : cntL dl + cntL r = cntL l := by rw [← hap, cntL_app]
  have hvlt := hrow.lt
  refine goT ?_
  refine Z52 rfl (fun hc => ?_) (fun hc => ?_)
  · have hlt : i < l.len := by simpa using hc
    cases r with
    | nil => simp only [Ss.len] at hlen; omega
    | cons op x y n t e r =>
      obtain ⟨b, o, vt, ve, Ft, Fe, rfl, hcells, hT, hE, hrest⟩ := restS_cons hr
      simp only [Ss.len, cntL] at hlen hcn
      rw [okL_cons, Bool.and_eq_true] at hokr
      have oT : vt.oneCell' = true := by
        obtain ⟨_, _, rfl, _⟩ := hT
        rfl
      have oE : ve.oneCell' = true := by
        obtain ⟨_, _, rfl, _⟩ := hE
        rfl
      have hbt := lsT_bound t
      have hbe := lsT_bound e
      have hit : (itemsT (dl.snoc op x y n t e)) = itemsT dl ++ [itT op x y n (lsT t) (lsT e)] := by unfold Ss.snoc; rw [itemsT_app]; rfl
      refine goT ?_
      refine Z83 rfl rfl rfl hlt ?_
      refine WO_loadS rfl rfl (fun j u hu => cell_ext (hcells j u hu) he) ?_
      refine WO_alloc fun w2 hb2 e2 z2 => ?_
      refine WO_storeS (k := 6) (vs := [.int .i64 op, .int .i64 x, .int .i64 y, .int .i64 n, vt, ve]) rfl rfl rfl (by intro u hu; simp at hu; rcases hu with rfl | rfl | rfl | rfl | rfl | rfl <;> first | rfl | assumption) hb2 (by decide) fun w3 hs o3 => ?_
      replace hs : Blk w3 w1.heap.size [.int .i64 op, .int .i64 x, .int .i64 y, .int .i64 n, vt, ve] _ := hs
      have e3 : Ext w1 w3 := e2.only o3 (Nat.le_refl _)
      have hrow3 := ownsRow_ext hrow e3
      have he3 := he.trans e3
      have s3 := hs.lt
      have hokS := hokr.1
      unfold okS at hokS
      by_cases h9 : op = 9
      · subst h9
        rw [if_pos (.inl rfl), Bool.and_eq_true, Bool.and_eq_true] at hokS
        have hq : itT 9 x y n (lsT t) (lsT e) = [105, 102, 123] ++ lsT t ++ [125, 123] ++ lsT e ++ [125] := by simp [itT, wIf, wMid]
        refine goT ?_
        refine W_held0E v.ownBlock.toList (SxIn 9 w.heap.size [(6, .slice (some ⟨b, o, none⟩) l.len c), (7, .int .i64 (l.len : Int)), (8, .int .i64 (i : Int))] v dl (itT 9 x y n (lsT t) (lsT e)) w3) (by kernel_rfl) (fun ws es hS => ?_) (fun τ w8 hR => ?_)
        · have hss := hs.ext es
          have hvno : w1.heap.size ∉ v.ownBlock.toList := fun hm => by have := hvlt _ (by simpa using hm); omega
          first | refine Z82 0 rfl (by kernel_rfl) (by kernel_rfl) (by kernel_rfl) (by assumption) (fun w' hw' => Z56 rfl) ?_ | refine Z82 0 rfl (by kernel_rfl) (by kernel_rfl) (by kernel_rfl) (by assumption) (fun w' hw' => Z63 rfl rfl) ?_ | refine Z82 0 rfl (by kernel_rfl) (by kernel_rfl) (by kernel_rfl) (by assumption) (fun w' hw' => Z64 rfl rfl) ?_ | refine Z82 0 rfl (by kernel_rfl) (by kernel_rfl) (by kernel_rfl) (by assumption) (fun w' hw' => Z75 rfl rfl (by omega)) ?_ | refine Z82 0 rfl (by kernel_rfl) (by kernel_rfl) (by kernel_rfl) (by assumption) (fun w' hw' => Z72 rfl) ?_ | refine Z82 0 rfl (by kernel_rfl) (by kernel_rfl) (by kernel_rfl) (by assumption) (fun w' hw' => Z69 rfl rfl rfl (by omega)) ?_ | refine Z82 0 rfl (by kernel_rfl) (by kernel_rfl) (by kernel_rfl) (by assumption) (fun w' hw' => Z30 rfl (by rfl) (by simp only [Z84, List.set_cons_zero, List.set_cons_succ]; rfl)) ?_
          first | refine Z82 1 rfl (by kernel_rfl) (by kernel_rfl) (by kernel_rfl) (by assumption) (fun w' hw' => Z56 rfl) ?_ | refine Z82 1 rfl (by kernel_rfl) (by kernel_rfl) (by kernel_rfl) (by assumption) (fun w' hw' => Z63 rfl rfl) ?_ | refine Z82 1 rfl (by kernel_rfl) (by kernel_rfl) (by kernel_rfl) (by assumption) (fun w' hw' => Z64 rfl rfl) ?_ | refine Z82 1 rfl (by kernel_rfl) (by kernel_rfl) (by kernel_rfl) (by assumption) (fun w' hw' => Z75 rfl rfl (by omega)) ?_ | refine Z82 1 rfl (by kernel_rfl) (by kernel_rfl) (by kernel_rfl) (by assumption) (fun w' hw' => Z72 rfl) ?_ | refine Z82 1 rfl (by kernel_rfl) (by kernel_rfl) (by kernel_rfl) (by assumption) (fun w' hw' => Z69 rfl rfl rfl (by omega)) ?_ | refine Z82 1 rfl (by kernel_rfl) (by kernel_rfl) (by kernel_rfl) (by assumption) (fun w' hw' => Z30 rfl (by rfl) (by simp only [Z84, List.set_cons_zero, List.set_cons_succ]; rfl)) ?_
          refine Z82 2 rfl (by kernel_rfl) (by kernel_rfl) (by kernel_rfl) (by assumption) (fun w' hw' => Z66 rfl (hss.chg hw' hvno) rfl) ?_
          first | refine Z82 6 rfl (by kernel_rfl) (by kernel_rfl) (by kernel_rfl) (by assumption) (fun w' hw' => Z56 rfl) ?_ | refine Z82 6 rfl (by kernel_rfl) (by kernel_rfl) (by kernel_rfl) (by assumption) (fun w' hw' => Z63 rfl rfl) ?_ | refine Z82 6 rfl (by kernel_rfl) (by kernel_rfl) (by kernel_rfl) (by assumption) (fun w' hw' => Z64 rfl rfl) ?_ | refine Z82 6 rfl (by kernel_rfl) (by kernel_rfl) (by kernel_rfl) (by assumption) (fun w' hw' => Z75 rfl rfl (by omega)) ?_ | refine Z82 6 rfl (by kernel_rfl) (by kernel_rfl) (by kernel_rfl) (by assumption) (fun w' hw' => Z72 rfl) ?_ | refine Z82 6 rfl (by kernel_rfl) (by kernel_rfl) (by kernel_rfl) (by assumption) (fun w' hw' => Z69 rfl rfl rfl (by omega)) ?_ | refine Z82 6 rfl (by kernel_rfl) (by kernel_rfl) (by kernel_rfl) (by assumption) (fun w' hw' => Z30 rfl (by rfl) (by simp only [Z84, List.set_cons_zero, List.set_cons_succ]; rfl)) ?_
          refine Z82 7 rfl (by kernel_rfl) (by kernel_rfl) (by kernel_rfl) (by assumption) (fun w' hw' => Z66 rfl (hss.chg hw' hvno) rfl) ?_
          refine WX_call 3 rfl (by kernel_rfl) rfl (ih t (by omega) tl (d - 1) vt Ft ws hokS.1.2 htl (hT.ext (he3.trans es)) (by omega)) ?_
          rintro _ wa ⟨rfl, ea⟩
          have Sa : Chg v.ownBlock.toList ws wa := ea.chg _
          refine ⟨Sa, ?_⟩
          refine Z82 4 rfl (by kernel_rfl) (by kernel_rfl) (by kernel_rfl) (by assumption) (fun w' hw' => Z87 rfl rfl (by simp; omega)) ?_
          refine Z82 5 rfl (by kernel_rfl) (by kernel_rfl) (by kernel_rfl) (by assumption) (fun w' hw' => Z87 rfl rfl (by simp; omega)) ?_
          refine WX_call 8 rfl (by kernel_rfl) rfl (ih e (by omega) tl (d - 1) ve Fe wa hokS.2 htl (hE.ext ((he3.trans es).trans ea)) (by omega)) ?_
          rintro _ wb ⟨rfl, eb⟩
          have eab := ea.trans eb
          have Sb : Chg v.ownBlock.toList ws wb := eab.chg _
          refine ⟨Sb, ?_⟩
          refine Z82 9 rfl (by kernel_rfl) (by kernel_rfl) (by kernel_rfl) (by assumption) (fun w' hw' => Z87 rfl rfl (by simp; omega)) ?_
          refine Z82 10 rfl (by kernel_rfl) (by kernel_rfl) (by kernel_rfl) (by assumption) (fun w' hw' => Z87 rfl rfl (by simp; omega)) ?_
          rw [← hq]
          refine WH_one 11 rfl (by kernel_rfl) (WO_build (e := 9) (k := 1) [.tmp 31] (vs := [sV (itT 9 x y n (lsT t) (lsT e))]) (cs := [sV (itT 9 x y n (lsT t) (lsT e))]) rfl rfl rfl (by decide) (by decide) (by simp [Value.cells]) (by simp [Value.cells]) fun wc hbc ec zc => Z31 (at_held ((eab.trans ec).chg _) ?_))
          refine WH_one 12 rfl (by kernel_rfl) (WO_append (B := w.heap.size) (k := 1) (m := dl.len) (mm := 1) (news := [sV (itT 9 x y n (lsT t) (lsT e))]) rfl (ownsRow_ext hrow3 (es.trans (eab.trans ec))) rfl rfl (fun j u hu => by rw [Nat.zero_add]; exact hbc.cell hu) (by intro u hu; simp at hu; subst hu; rfl) (((he3.trans es).trans (eab.trans ec)).size) (by decide) (by omega) (by decide) fun v' wd k1 k2 k3 => Z31 (at_held (((eab.trans ec).chg _).trans ((grown_chg k2).mono (by simp))) ?_))
          have Sd : Chg v.ownBlock.toList ws wd := ((eab.trans ec).chg _).trans ((grown_chg k2).mono (by simp))
          first | refine Z82 13 rfl (by kernel_rfl) (by kernel_rfl) (by kernel_rfl) (by assumption) (fun w' hw' => Z56 rfl) ?_ | refine Z82 13 rfl (by kernel_rfl) (by kernel_rfl) (by kernel_rfl) (by assumption) (fun w' hw' => Z63 rfl rfl) ?_ | refine Z82 13 rfl (by kernel_rfl) (by kernel_rfl) (by kernel_rfl) (by assumption) (fun w' hw' => Z64 rfl rfl) ?_ | refine Z82 13 rfl (by kernel_rfl) (by kernel_rfl) (by kernel_rfl) (by assumption) (fun w' hw' => Z75 rfl rfl (by omega)) ?_ | refine Z82 13 rfl (by kernel_rfl) (by kernel_rfl) (by kernel_rfl) (by assumption) (fun w' hw' => Z72 rfl) ?_ | refine Z82 13 rfl (by kernel_rfl) (by kernel_rfl) (by kernel_rfl) (by assumption) (fun w' hw' => Z69 rfl rfl rfl (by omega)) ?_ | refine Z82 13 rfl (by kernel_rfl) (by kernel_rfl) (by kernel_rfl) (by assumption) (fun w' hw' => Z30 rfl (by rfl) (by simp only [Z84, List.set_cons_zero, List.set_cons_succ]; rfl)) ?_
          exact WH_doneE (by kernel_rfl) (by repeat (first | exact True.intro | refine And.intro rfl ?_)) ⟨v', rfl, k1, (es.chg _).trans Sd⟩
        · obtain ⟨v', rfl, k1, c8⟩ := hR
          have e8 : Ext w w8 := c8.ext_of he3 (fun z hz => by have := hvlt z (by simpa using hz); omega)
          refine goT ?_
          exact at_loop (i + 1, dl.snoc 9 x y n t e, r, v') (by repeat (first | exact True.intro | refine And.intro rfl ?_)) ⟨by rw [Ss.snoc_app]; exact hap, by simp only; rw [Ss.len_snoc]; omega, hrest, hokr.2, by simp only; rw [hit, Ss.len_snoc, List.map_append]; exact k1, e8⟩ (by simp only [Ss.len]; omega)
      · by_cases h10 : op = 10
        · subst h10
          rw [if_pos (.inr rfl), Bool.and_eq_true, Bool.and_eq_true] at hokS
          have hq : itT 10 x y n (lsT t) (lsT e) = [108, 111, 111, 112, 123] ++ lsT t ++ [125] := by simp [itT, wLoop]
          refine goT ?_
          refine WO_call rfl (ih t (by omega) tl (d - 1) vt Ft w3 hokS.1.2 htl (hT.ext he3) (by omega)) ?_
          rintro _ w4 ⟨rfl, e4⟩
          refine goT ?_
          rw [← hq]
          refine WO_app1 (m := dl.len) (u := sV (itT 10 x y n (lsT t) (lsT e))) rfl rfl (by intro u hu; simp [Value.cells] at hu; subst hu; rfl) rfl (ownsRow_ext hrow3 e4) (he3.trans e4).size rfl (by omega) (by decide) fun v' w5 k1 k2 k3 => ?_
          have e5 : Ext w w5 := ext_grown (he3.trans e4) k2 (fun z hz => by have := hvlt z hz; omega)
          refine goT ?_
          exact at_loop (i + 1, dl.snoc 10 x y n t e, r, v') (by repeat (first | exact True.intro | refine And.intro rfl ?_)) ⟨by rw [Ss.snoc_app]; exact hap, by simp only; rw [Ss.len_snoc]; omega, hrest, hokr.2, by simp only; rw [hit, Ss.len_snoc, List.map_append]; exact k1, e5⟩ (by simp only [Ss.len]; omega)
        · rw [if_neg (by omega), decide_eq_true_eq] at hokS
          obtain ⟨a1, a2, a3, a4, a5, a6⟩ := simple_form hokS htl
          have hq : itT op x y n (lsT t) (lsT e) = simT op x y n := by unfold itT; rw [if_neg h9, if_neg h10]
          refine goT ?_
          rw [show (op == 9) = false from by simp [h9]]
          refine goT ?_
          rw [show (op == 10) = false from by simp [h10]]
          refine goT ?_
          refine WO_loadSB rfl hs rfl ?_
          refine WO_call rfl (simpleText_ret op x y n vt ve w3 a1 a2 (by omega) (by omega)) ?_
          rintro _ w4 ⟨rfl, e4⟩
          rw [← hq]
          refine WO_app1 (m := dl.len) (u := sV (itT op x y n (lsT t) (lsT e))) rfl rfl (by intro u hu; simp [Value.cells] at hu; subst hu; rfl) rfl (ownsRow_ext hrow3 e4) (he3.trans e4).size rfl (by omega) (by decide) fun v' w5 k1 k2 k3 => ?_
          have e5 : Ext w w5 := ext_grown (he3.trans e4) k2 (fun z hz => by have := hvlt z hz; omega)
          refine goT ?_
          exact at_loop (i + 1, dl.snoc op x y n t e, r, v') (by repeat (first | exact True.intro | refine And.intro rfl ?_)) ⟨by rw [Ss.snoc_app]; exact hap, by simp only; rw [Ss.len_snoc]; omega, hrest, hokr.2, by simp only; rw [hit, Ss.len_snoc, List.map_append]; exact k1, e5⟩ (by simp only [Ss.len]; omega)
  · have hge : i = l.len := by simp at hc; omega
    have hr0 : r = .nil := Ss.len_zero (by omega)
    subst hr0
    rw [Ss.app_nil] at hap
    subst hap
    refine goT ?_
    refine WO_call rfl (join_ret 9 w.heap.size v (itemsT dl) w1 (by rw [itemsT_len]; exact hrow) (by rw [itemsT_len]; omega) (by rw [itemsT_join]; omega)) ?_
    rintro _ w2 ⟨rfl, e2⟩
    rw [itemsT_join]
    refine goT ?_
    exact at_ret1 rfl rfl ⟨rfl, he.trans e2⟩) l
theorem okT_atF {tl : List Int} (h : okT tl = true) {i : Nat} (hi : i < tl.length) : 1 ≤ tl[i] ∧ tl[i] ≤ 4 := by
  unfold okT at h
  rw [Bool.and_eq_true, List.all_eq_true] at h
  simpa using h.2 _ (List.getElem_mem hi)
theorem programText_ret (tv bv : Value) (tl : List Int) (l : Ss) (Ft F : List Nat) (w : World) (ht : IntF w tv tl Ft) (h : StS w bv l F) (hv : validP tl l = true) :
    Ret Tryz.prog 14 [prV tv bv] w fun r w' => r = sV (progT tl l) ∧ Ext w w' := by
  unfold validP at hv
  rw [Bool.and_eq_true, Bool.and_eq_true, decide_eq_true_eq] at hv
  obtain ⟨hT, hL, hC⟩ := hv
  have htl : tl.length ≤ 6 := by
    unfold okT at hT
    rw [Bool.and_eq_true] at hT
    simpa using hT.1
  obtain ⟨A, c, rfl, hl, hx⟩ := ht
  refine enter Tryz.func14 rfl Tryz.ntmps14 rfl rfl ?_
  refine Z43 (Z44 (WO_box rfl fun w1 hs e1 z1 => ?_))
  replace hs : Blk w1 w.heap.size [.slice A tl.length c, bv] _ := hs
  refine goT ?_
  refine W_loop (α := Nat) (fun i => [(1, .pointer (some ⟨w.heap.size, 0, none⟩)), (3, sV ((tl.take i).map tyCh)), (7, .slice A tl.length c), (8, .int .i64 (tl.length : Int)), (9, .int .i64 (i : Int))])
    (fun i w' => i ≤ tl.length ∧ w' = w1) (fun i => tl.length - i) 0 (by repeat (first | exact True.intro | refine And.intro rfl ?_)) ⟨Nat.zero_le _, rfl⟩ ?_
  rintro i w2 ⟨hi, rfl⟩
  refine goT ?_
  refine Z52 rfl (fun hc => ?_) (fun hc => ?_)
  · have hlt : i < tl.length := by simpa using hc
    obtain ⟨b, o, rfl, _, hcell⟩ := int_at hx hlt
    have hr := okT_atF hT hlt
    have hcell := cell_ext hcell e1
    refine goT ?_
    refine Z83 rfl rfl rfl hlt ?_
    refine Z11 rfl hcell ?_
    refine goT ?_
    obtain ⟨k, hk⟩ : ∃ k : Nat, tl[i] = (k : Int) + 1 := ⟨(tl[i] - 1).toNat, by omega⟩
    refine Z13 (q_strSl (s := [105, 98, 114, 109]) (l := k) (h := k + 1) rfl rfl rfl (by omega) (by omega) (by omega) (by simp; omega)) ?_
    have hch : (([105, 98, 114, 109] : Tx).drop k).take (k + 1 - k) = [tyCh tl[i]] := by
      rw [hk]
      have h5 : k = 0 ∨ k = 1 ∨ k = 2 ∨ k = 3 := by omega
      rcases h5 with rfl | rfl | rfl | rfl <;> rfl
    rw [hch]
    refine Z13 (Z87 rfl rfl (by simp; omega)) ?_
    have hsn : (tl.take i).map tyCh ++ [tyCh tl[i]] = (tl.take (i + 1)).map tyCh := by rw [List.take_succ_eq_append_getElem hlt, List.map_append]; rfl
    rw [hsn]
    refine goT ?_
    exact at_loop (i + 1) (by repeat (first | exact True.intro | refine And.intro rfl ?_)) ⟨hlt, rfl⟩ (by omega)
  · have hge : i = tl.length := by simp at hc; omega
    subst hge
    rw [List.take_length]
    have hb := lsT_bound l
    refine goT ?_
    refine Z13 (Z87 rfl rfl (by simp; omega)) ?_
    refine goT ?_
    refine WO_call rfl (stmtsText_all l tl 4 bv F _ hL htl (h.ext e1) (by omega)) ?_
    rintro _ w3 ⟨rfl, e3⟩
    refine Z13 (Z87 rfl rfl (by simp; omega)) ?_
    refine goT ?_
    refine at_ret1 rfl rfl ⟨?_, e1.trans e3⟩
    exact congrArg sV (by simp [progT])
end Go.Proofs.YtplcmbipeanjdaaGreatDoor
namespace Go.Proofs.YtplcmbipeanjdaaGreatDoor
set_option linter.unusedVariables false
set_option linter.unusedSimpArgs false
set_option linter.unnecessarySimpa false
open Go.RowKit

/-- The text of a program: empty if it is not valid. -/
def fmtT (tl : List Int) (l : Ss) : Tx := if validP tl l = true then progT tl l else []
theorem fmtT_of {tl : List Int} {l : Ss} (h : validP tl l = true) : fmtT tl l = progT tl l := if_pos h
theorem progT_ne (tl : List Int) (l : Ss) : progT tl l ≠ [] := by unfold progT; simp
theorem FormatProgram_ret (tv bv : Value) (tl : List Int) (l : Ss) (F F2 : List Nat) (w : World) (ht : IntF w tv tl F) (hb : StS w bv l F2) : Ret Tryz.prog 5 [prV tv bv] w fun v w' => v = sV (fmtT tl l) ∧ Ext w w' := by
  refine enter Tryz.func5 rfl Tryz.ntmps5 rfl rfl ?_
  refine Z43 (Z44 (WO_box rfl fun w1 hs he1 hz1 => ?_))
  replace hs : Blk w1 w.heap.size [tv, bv] _ := hs
  refine goS ?_
  refine WO_loadSB rfl hs rfl ?_
  refine WO_call rfl (ProgramValid_ret tv bv tl l F F2 w1 (ht.ext he1) (hb.ext he1)) ?_
  rintro _ w2 ⟨rfl, e2⟩
  replace hs := hs.ext e2
  unfold fmtT
  cases hv : validP tl l
  · refine goS ?_
    exact at_ret1 rfl rfl ⟨rfl, he1.trans e2⟩
  · refine goS ?_
    refine WO_loadSB rfl hs rfl ?_
    refine WO_call rfl (programText_ret tv bv tl l F F2 w2 (ht.ext (he1.trans e2)) (hb.ext (he1.trans e2)) hv) ?_
    rintro _ w3 ⟨rfl, e3⟩
    refine goS ?_
    exact at_ret1 rfl rfl ⟨rfl, (he1.trans e2).trans e3⟩
theorem sFormatProgram_ret (tv bv : Value) (tl : List Int) (l : Ss) (F F2 : List Nat) (w : World) (ht : IntF w tv tl F) (hb : StS w bv l F2) (hn : cntL l ≤ 1073741824) : Ret Tryz.prog 8 [prV tv bv] w fun v w' => v = sV (fmtT tl l) ∧ Ext w w' := by
  refine enter Tryz.func8 rfl Tryz.ntmps8 rfl rfl ?_
  refine Z43 (Z44 (WO_box rfl fun w1 hs he1 hz1 => ?_))
  replace hs : Blk w1 w.heap.size [tv, bv] _ := hs
  refine goS ?_
  refine WO_loadSB rfl hs rfl ?_
  refine WO_call rfl (sProgramValid_ret tv bv tl l F F2 w1 (ht.ext he1) (hb.ext he1) hn) ?_
  rintro _ w2 ⟨rfl, e2⟩
  replace hs := hs.ext e2
  unfold fmtT
  cases hv : validP tl l
  · refine goS ?_
    exact at_ret1 rfl rfl ⟨rfl, he1.trans e2⟩
  · refine goS ?_
    refine WO_loadSB rfl hs rfl ?_
    refine WO_call rfl (l1Program_ret tv bv tl l F F2 w2 (ht.ext (he1.trans e2)) (hb.ext (he1.trans e2)) hv) ?_
    rintro _ w3 ⟨rfl, e3⟩
    refine goS ?_
    exact at_ret1 rfl rfl ⟨rfl, (he1.trans e2).trans e3⟩
end Go.Proofs.YtplcmbipeanjdaaGreatDoor
namespace Go.Proofs.YtplcmbipeanjdaaGreatDoor
set_option linter.unusedVariables false
set_option linter.unusedSimpArgs false
set_option linter.unnecessarySimpa false
open Go.RowKit

/-- Whether a word stands at a place of a text. -/
def atB (s : Tx) (p : Int) (w : Tx) : Bool := decide (0 ≤ p) && w.isPrefixOf (s.drop p.toNat)
def byS (lo hi : Nat) (s : Tx) (p : Int) : Int := if 0 ≤ p then (match s.drop p.toNat with
  | [] => -1
  | b :: _ => if lo ≤ b.toNat ∧ b.toNat ≤ hi then ((b.toNat - lo : Nat) : Int) else -1) else -1
def varS : Tx → Int → Int := byS 97 122
def digS : Tx → Int → Int := byS 48 57
abbrev PR := Ss × Int
def bracS (s : Tx) (L : Option (Int → PR)) (p : Int) : PR :=
  match L with
  | none => (.nil, -1)
  | some f => if atB s p [123] = true then (if atB s (f (p + 1)).2 [125] = true then ((f (p + 1)).1, (f (p + 1)).2 + 1) else (.nil, -1)) else (.nil, -1)
def parS (s : Tx) (L : Option (Int → PR)) (p : Int) : One × Int :=
  if atB s p wDrop = true then ((8, varS s (p + 5), 0, 0, .nil, .nil), p + 6)
  else if atB s p wLoop = true then ((10, 0, 0, 0, (bracS s L (p + 4)).1, .nil), (bracS s L (p + 4)).2)
  else if atB s p wIf = true then ((9, 0, 0, 0, (bracS s L (p + 2)).1, (bracS s L (bracS s L (p + 2)).2).1), (bracS s L (bracS s L (p + 2)).2).2)
  else if atB s p [42] = true then ((7, varS s (p + 1), varS s (p + 3), 0, .nil, .nil), p + 4)
  else if varS s p < 0 ∨ atB s (p + 1) [61] = false then ((0, 0, 0, 0, .nil, .nil), -1)
  else if atB s (p + 2) wBox = true then ((2, varS s p, 0, digS s (p + 6), .nil, .nil), p + 7)
  else if atB s (p + 2) wMut = true then ((5, varS s p, varS s (p + 7), 0, .nil, .nil), p + 8)
  else if atB s (p + 2) [38] = true then ((4, varS s p, varS s (p + 3), 0, .nil, .nil), p + 4)
  else if atB s (p + 2) [42] = true then ((6, varS s p, varS s (p + 3), 0, .nil, .nil), p + 4)
  else if 0 ≤ digS s (p + 2) then ((1, varS s p, 0, digS s (p + 2), .nil, .nil), p + 3)
  else ((3, varS s p, varS s (p + 2), 0, .nil, .nil), p + 3)
def lopS (s : Tx) (g : Int → One × Int) : Nat → Int → PR
  | 0, _ => (.nil, -1)
  | k + 1, p => if (g p).2 < 0 ∨ (s.length : Int) < (g p).2 then (.nil, -1)
    else if atB s (g p).2 [59] = true then (if (lopS s g k ((g p).2 + 1)).2 < 0 then (.nil, -1) else (consO (g p).1 (lopS s g k ((g p).2 + 1)).1, (lopS s g k ((g p).2 + 1)).2))
    else (consO (g p).1 .nil, (g p).2)
def lisS (s : Tx) : Nat → Int → PR
  | 0, p => if p = s.length ∨ atB s p [125] = true then (.nil, p) else lopS s (parS s none) (s.length + 1) p
  | d + 1, p => if p = s.length ∨ atB s p [125] = true then (.nil, p) else lopS s (parS s (some (lisS s d))) (s.length + 1) p
def subS (s : Tx) : Nat → Option (Int → PR)
  | 0 => none
  | d + 1 => some (lisS s d)
theorem lisS_eq (s : Tx) (d : Nat) (p : Int) : lisS s d p = if p = s.length ∨ atB s p [125] = true then (.nil, p) else lopS s (parS s (subS s d)) (s.length + 1) p := by cases d <;> rfl
/-! ### Bounds -/
theorem atB_in {s w : Tx} {p : Int} (h : atB s p w = true) : 0 ≤ p ∧ p + w.length ≤ max p s.length := by
  unfold atB at h
  simp only [Bool.and_eq_true, decide_eq_true_eq] at h
  have := (List.isPrefixOf_iff_prefix.1 h.2).length_le
  rw [List.length_drop] at this
  omega
theorem atB_lt {s w : Tx} {p : Int} (h : atB s p w = true) (hw : 0 < w.length) : 0 ≤ p ∧ p + w.length ≤ s.length := by
  have := atB_in h
  omega
theorem byS_in (lo hi : Nat) (s : Tx) (p : Int) (h : hi ≤ 300) : -1 ≤ byS lo hi s p ∧ byS lo hi s p ≤ 300 := by
  unfold byS
  split
  · split
    · omega
    · split <;> omega
  · omega
/-- What a reader of lists gives, in bounds. -/
def InB (s : Tx) (p : Int) (r : PR) : Prop := (r.2 = -1 ∧ r.1 = .nil) ∨ (p ≤ r.2 ∧ r.2 ≤ s.length ∧ (cntL r.1 : Int) ≤ r.2 - p)
def InL (s : Tx) (L : Option (Int → PR)) : Prop := ∀ f, L = some f → ∀ p : Int, 0 ≤ p → p ≤ s.length → InB s p (f p)
theorem bracS_in {s : Tx} {L : Option (Int → PR)} (hL : InL s L) (p : Int) : ((bracS s L p).2 = -1 ∧ (bracS s L p).1 = .nil) ∨ (0 ≤ p ∧ p + 2 ≤ (bracS s L p).2 ∧ (bracS s L p).2 ≤ s.length ∧ (cntL (bracS s L p).1 : Int) ≤ (bracS s L p).2 - p - 2) := by
  unfold bracS
  cases L with
  | none => exact .inl ⟨rfl, rfl⟩
  | some f =>
    simp only
    split
    · rename_i h1
      have q1 := atB_lt h1 (by decide)
      simp only [List.length_cons, List.length_nil] at q1
      split
      · rename_i h2
        have q2 := atB_lt h2 (by decide)
        simp only [List.length_cons, List.length_nil] at q2
        have := hL f rfl (p + 1) (by omega) (by omega)
        rcases this with ⟨h3, _⟩ | ⟨h3, h4, h5⟩
        · omega
        · refine .inr ⟨by omega, ?_, ?_, ?_⟩ <;> simp only <;> omega
      · exact .inl ⟨rfl, rfl⟩
    · exact .inl ⟨rfl, rfl⟩
def cntO (a : One) : Nat := 1 + cntL a.2.2.2.2.1 + cntL a.2.2.2.2.2
theorem cntL_consO (a : One) (r : Ss) : cntL (consO a r) = cntO a + cntL r := by simp only [consO, cntL, cntO]
theorem parS_in {s : Tx} {L : Option (Int → PR)} (hL : InL s L) {p : Int} (hp : 0 ≤ p) : (parS s L p).2 = -1 ∨ (p < (parS s L p).2 ∧ (parS s L p).2 ≤ max (p + 8) s.length ∧ (cntO (parS s L p).1 : Int) ≤ (parS s L p).2 - p) := by
  have b1 := bracS_in hL (p + 4)
  have b2 := bracS_in hL (p + 2)
  have b3 := bracS_in hL (bracS s L (p + 2)).2
  have fin : ∀ (a : One) (k : Int), 0 < k → k ≤ 8 → cntO a = 1 → (a, p + k).2 = -1 ∨ (p < (a, p + k).2 ∧ (a, p + k).2 ≤ max (p + 8) s.length ∧ (cntO (a, p + k).1 : Int) ≤ (a, p + k).2 - p) := fun a k h1 h2 h3 => .inr (by simp only [h3]; omega)
  unfold parS
  split
  · exact fin _ 6 (by decide) (by decide) rfl
  · split
    · rcases b1 with ⟨h1, _⟩ | ⟨h1, h2, h3, h4⟩
      · exact .inl h1
      · refine .inr ⟨by simp only; omega, by simp only; omega, ?_⟩
        simp only [cntO, cntL]
        omega
    · split
      · rcases b3 with ⟨h1, _⟩ | ⟨h1, h2, h3, h4⟩
        · exact .inl h1
        · rcases b2 with ⟨q1, _⟩ | ⟨q1, q2, q3, q4⟩
          · omega
          · refine .inr ⟨by simp only; omega, by simp only; omega, ?_⟩
            simp only [cntO]
            omega
      · split
        · exact fin _ 4 (by decide) (by decide) rfl
        · split
          · exact .inl rfl
          · split
            · exact fin _ 7 (by decide) (by decide) rfl
            · split
              · exact fin _ 8 (by decide) (by decide) rfl
              · split
                · exact fin _ 4 (by decide) (by decide) rfl
                · split
                  · exact fin _ 4 (by decide) (by decide) rfl
                  · split
                    · exact fin _ 3 (by decide) (by decide) rfl
                    · exact fin _ 3 (by decide) (by decide) rfl
theorem lopS_in {s : Tx} {L : Option (Int → PR)} (hL : InL s L) : ∀ (k : Nat) (p : Int), 0 ≤ p → p ≤ s.length → InB s p (lopS s (parS s L) k p)
  | 0, _, _, _ => .inl ⟨rfl, rfl⟩
  | k + 1, p, h0, h1 => by
    have hg := parS_in hL h0
    unfold lopS
    split
    · exact .inl ⟨rfl, rfl⟩
    · rename_i hno
      rcases hg with hg | ⟨g1, g2, g3⟩
      · omega
      · split
        · rename_i hsep
          have q := atB_lt hsep (by decide)
          simp only [List.length_cons, List.length_nil] at q
          split
          · exact .inl ⟨rfl, rfl⟩
          · rename_i hn
            rcases lopS_in hL k ((parS s L p).2 + 1) (by omega) (by omega) with ⟨r1, _⟩ | ⟨r1, r2, r3⟩
            · omega
            · refine .inr ⟨by simp only; omega, by simp only; omega, ?_⟩
              simp only [cntL_consO]
              omega
        · refine .inr ⟨by simp only; omega, by simp only; omega, ?_⟩
          simp only [cntL_consO, cntL]
          omega
theorem lisS_in (s : Tx) : ∀ (d : Nat) (p : Int), 0 ≤ p → p ≤ s.length → InB s p (lisS s d p) := by
  intro d
  induction d with
  | zero =>
    intro p h0 h1
    rw [lisS_eq]
    split
    · exact .inr ⟨Int.le_refl _, h1, by simp [cntL]⟩
    · exact lopS_in (fun f hf => by cases hf) _ _ h0 h1
  | succ d ih =>
    intro p h0 h1
    rw [lisS_eq]
    split
    · exact .inr ⟨Int.le_refl _, h1, by simp [cntL]⟩
    · exact lopS_in (fun f hf => by cases hf; exact ih) _ _ h0 h1
theorem subS_in (s : Tx) (d : Nat) : InL s (subS s d) := by
  cases d with
  | zero => exact fun f hf => by cases hf
  | succ d => exact fun f hf => by cases hf; exact lisS_in s d
/-! ### A valid program is read back -/
theorem atB_at {s q w : Tx} {p : Int} (h0 : 0 ≤ p) (hs : s.drop p.toNat = q) (k : Nat) : atB s (p + k) w = w.isPrefixOf (q.drop k) := by
  unfold atB
  rw [decide_eq_true (by omega), Bool.true_and, ← hs, List.drop_drop]
  congr 2
  omega
theorem atB_at0 {s q w : Tx} {p : Int} (h0 : 0 ≤ p) (hs : s.drop p.toNat = q) : atB s p w = w.isPrefixOf q := by
  have := atB_at (w := w) h0 hs 0
  simpa using this
theorem byS_at {lo hi : Nat} {s q : Tx} {p : Int} (h0 : 0 ≤ p) (hs : s.drop p.toNat = q) (k : Nat) (b : UInt8) (r : Tx) (hq : q.drop k = b :: r) (hb : lo ≤ b.toNat ∧ b.toNat ≤ hi) : byS lo hi s (p + k) = ((b.toNat - lo : Nat) : Int) := by
  unfold byS
  rw [if_pos (by omega), show (p + k).toNat = p.toNat + k from by omega, ← List.drop_drop, hs, hq]
  simp only
  rw [if_pos hb]
theorem varS_at {s q : Tx} {p x : Int} (h0 : 0 ≤ p) (hs : s.drop p.toNat = q) (k : Nat) (r : Tx) (hq : q.drop k = chv x :: r) (hx : 0 ≤ x ∧ x < 6) : varS s (p + k) = x := by
  have := chv_nat hx
  unfold varS
  rw [byS_at h0 hs k (chv x) r hq (by omega)]
  omega
theorem digS_at {s q : Tx} {p n : Int} (h0 : 0 ≤ p) (hs : s.drop p.toNat = q) (k : Nat) (r : Tx) (hq : q.drop k = dgv n :: r) (hn : 0 ≤ n ∧ n ≤ 9) : digS s (p + k) = n := by
  have := dgv_nat hn
  unfold digS
  rw [byS_at h0 hs k (dgv n) r hq (by omega)]
  omega
end Go.Proofs.YtplcmbipeanjdaaGreatDoor
