/-
  What is proved here: which small programs the program and the reference make.
-/
import Derived.Test.YtplcmbipeanjdaaDoorGrow
import Derived.Test.YtplcmbipeanjdaaDoorPr
import Derived.Test.YtplcmbipeanjdaaDoorRes
import Derived.Test.YtplcmbipeanjdaaDoorSmall
namespace Go.Proofs.YtplcmbipeanjdaaDoor
set_option linter.unusedVariables false
set_option linter.unusedSimpArgs false
set_option linter.unnecessarySimpa false
open Go.RowKit

/-- The statement with a code. -/
def smOp : Nat → Int × Int × Int × Int
  | 0 => (4, 2, 1, 0)
  | 1 => (5, 3, 1, 0)
  | 2 => (4, 2, 3, 0)
  | 3 => (6, 0, 2, 0)
  | 4 => (6, 0, 1, 0)
  | 5 => (7, 3, 0, 0)
  | 6 => (7, 1, 0, 0)
  | _ => (2, 1, 0, 2)
def smSt (c : Nat) (r : Ss) : Ss := .cons (smOp c).1 (smOp c).2.1 (smOp c).2.2.1 (smOp c).2.2.2 .nil .nil r
/-- The statements for so many digits of a number. -/
def smL : Nat → Nat → Ss
  | 0, _ => .nil
  | i + 1, n => smSt (n % 8) (smL i (n / 8))
def smBody (n : Nat) : Ss := .cons 1 0 0 1 .nil .nil (.cons 2 1 0 0 .nil .nil (smL 4 n))
def smTypes : List Int := [1, 2, 3, 4]
theorem smL_cnt : ∀ i n, cntL (smL i n) = i
  | 0, _ => rfl
  | i + 1, n => by simp [smL, smSt, cntL, smL_cnt i]; omega
theorem smBody_cnt (n : Nat) : cntL (smBody n) = 6 := by simp [smBody, cntL, smL_cnt]
def smV (c : Nat) : Value := stV (smOp c).1 (smOp c).2.1 (smOp c).2.2.1 (smOp c).2.2.2 (.slice none 0 0) (.slice none 0 0)
def smC (c : Nat) : List Value := [.int .i64 (smOp c).1, .int .i64 (smOp c).2.1, .int .i64 (smOp c).2.2.1, .int .i64 (smOp c).2.2.2, .slice none 0 0, .slice none 0 0]
def smAll : List Value := smC 0 ++ smC 1 ++ smC 2 ++ smC 3 ++ smC 4 ++ smC 5 ++ smC 6 ++ smC 7
theorem smAll_at {c : Nat} (h : c < 8) : (smAll.drop (c * 6)).take 6 = smC c := by
  have : c = 0 ∨ c = 1 ∨ c = 2 ∨ c = 3 ∨ c = 4 ∨ c = 5 ∨ c = 6 ∨ c = 7 := by omega
  rcases this with rfl | rfl | rfl | rfl | rfl | rfl | rfl | rfl <;> rfl
theorem smAll_cell {w : World} {b c : Nat} {t : TypeId} (hb : Blk w b smAll t) (h : c < 8) : ∀ j u, (smC c)[j]? = some u → w.cell? ⟨b, 0 + c * 6 + j, none⟩ = some u := fun j u hu => by
  rw [← smAll_at h, List.getElem?_take] at hu
  split at hu
  · rw [List.getElem?_drop] at hu
    rw [Nat.zero_add]
    exact hb.cell hu
  · cases hu
theorem smC_one (c : Nat) : ∀ v ∈ smC c, v.oneCell' = true := by
  intro v hv
  simp [smC] at hv
  rcases hv with rfl | rfl | rfl | rfl | rfl <;> rfl
/-- A row of statements without statements in them. -/
def FlatS (e : TypeId) (B : Nat) (w : World) (l : Ss) (v : Value) : Prop := ∃ xs, w.ownsRow B e 6 v l.len xs ∧ StkS e w l xs []
theorem FlatS.chg {e : TypeId} {B : Nat} {w w' : World} {l : Ss} {v : Value} {G : List Nat} (h : FlatS e B w l v) (k : Chg G w w') (hd : ∀ x ∈ v.ownBlock.toList, x ∉ G) : FlatS e B w' l v := by
  obtain ⟨xs, h1, h2⟩ := h
  exact ⟨xs, ownsRow_chg h1 k hd, StkS.chg k _ _ _ h2 (by simp)⟩
theorem FlatS.row {e : TypeId} {B : Nat} {w : World} {l : Ss} {v : Value} (h : FlatS e B w l v) : RowS e w v l v.ownBlock.toList := by
  obtain ⟨xs, h1, h2⟩ := h
  exact ⟨xs, [], ownsRow_base0 h1, h2, by simp⟩
/-- One more statement stands behind the others. -/
theorem FlatS.more {e : TypeId} {B : Nat} {w w' : World} {l : Ss} {v' : Value} {xs : List Value} {G : List Nat} {c : Nat} (h2 : StkS e w l xs []) (k1 : w'.ownsRow B e 6 v' (l.len + 1) (xs ++ (smV c).cells.toList)) (k : Chg G w w') :
    FlatS e B w' (l.app (smSt c .nil)) v' := by
  refine ⟨xs ++ smC c, ?_, ?_⟩
  · rw [Ss.len_app]
    exact k1
  · have h3 : StkS e w' (smSt c .nil) (smC c) [] := StkS.mk (RowS.nil_ e w') (RowS.nil_ e w') (r := .nil) (xr := []) (Fr := []) ⟨rfl, rfl⟩
    have := StkS.append _ _ _ _ _ _ (StkS.chg k _ _ _ h2 (by simp)) h3
    simpa using this
theorem smL_step (i n : Nat) (d : Ss) : (d.app (smSt (n % 8) .nil)).app (smL i (n / 8)) = d.app (smL (i + 1) n) := by
  rw [Ss.app_assoc]
  rfl
def smHead : Ss := .cons 1 0 0 1 .nil .nil (.cons 2 1 0 0 .nil .nil .nil)
theorem smHead_app (n : Nat) : smHead.app (smL 4 n) = smBody n := rfl
def smHeadC : List Value := [.int .i64 1, .int .i64 0, .int .i64 0, .int .i64 1, .slice none 0 0, .slice none 0 0, .int .i64 2, .int .i64 1, .int .i64 0, .int .i64 0, .slice none 0 0, .slice none 0 0]
theorem smHead_flat {e : TypeId} {B b : Nat} {w : World} (hb : Blk w b smHeadC e) (hB : B ≤ b) : FlatS e B w smHead (.slice (some ⟨b, 0, none⟩) 2 2) := by
  refine ⟨smHeadC, owns_blk hb hB rfl (by decide), ?_⟩
  have h1 : StkS e w (.cons 2 1 0 0 .nil .nil .nil) [.int .i64 2, .int .i64 1, .int .i64 0, .int .i64 0, .slice none 0 0, .slice none 0 0] [] := StkS.mk (RowS.nil_ e w) (RowS.nil_ e w) (r := .nil) (xr := []) (Fr := []) ⟨rfl, rfl⟩
  exact StkS.mk (RowS.nil_ e w) (RowS.nil_ e w) h1
theorem smallStmt_ret (c : Nat) (w : World) (h : c < 8) : Ret Tryd.prog 36 [.int .i64 (c : Int)] w fun v w' => v = smV c ∧ Ext w w' := by
  refine enter Tryd.func36 rfl Tryd.ntmps36 rfl rfl ?_
  refine Z43 (Z44 (WO_alloc fun w1 hr e1 z1 => ?_))
  replace hr : Blk w1 w.heap.size [.int .i64 0, .int .i64 0, .int .i64 0, .int .i64 0, .slice none 0 0, .slice none 0 0] _ := hr
  refine goS ?_
  refine WO_build (e := 56) (k := 6) [.tmp 3, .tmp 4, .tmp 5, .tmp 6, .tmp 7, .tmp 8, .tmp 9, .tmp 10] (vs := [smV 0, smV 1, smV 2, smV 3, smV 4, smV 5, smV 6, smV 7]) (cs := smAll) rfl rfl rfl (by decide) (by decide) (by simp [smV, stV, Value.cells]) rfl fun w2 hb e2 z2 => ?_
  refine goS ?_
  refine Z83 (j := c) rfl rfl rfl h ?_
  refine WO_loadS (cs := smC c) rfl rfl (smAll_cell hb h) ?_
  refine WO_storeS (k := 6) (vs := smC c) rfl rfl rfl (smC_one c) (hr.ext e2) (by decide) fun w3 hr3 o3 => ?_
  refine goS ?_
  exact at_retC rfl rfl hr3 rfl ⟨rfl, (e1.trans e2).only o3 (Nat.le_refl _)⟩

def smOk (a : Int) : Prop := 0 ≤ a ∧ a < 4096
instance (a : Int) : Decidable (smOk a) := by unfold smOk; infer_instance
def smT (a : Int) : List Int := if smOk a then smTypes else []
def smB (a : Int) : Ss := if smOk a then smBody a.toNat else .nil
theorem smT_len (a : Int) : (smT a).length ≤ 4 := by unfold smT; split <;> simp [smTypes]
theorem smB_cnt (a : Int) : cntL (smB a) ≤ 6 := by unfold smB; split <;> simp [smBody_cnt, cntL]
/-- What stands behind the region that appends a statement. -/
def SmGrew (e eP : TypeId) (B pb : Nat) (tv v : Value) (d : Ss) (c : Nat) (w w' : World) : Prop :=
  ∃ v', Blk w' pb [tv, v'] eP ∧ FlatS e B w' (d.app (smSt c .nil)) v' ∧ Chg (pb :: v.ownBlock.toList) w w' ∧ (v'.ownBlock = v.ownBlock ∨ ∃ b, v'.ownBlock = some b ∧ w.heap.size ≤ b)
theorem one_smV (c : Nat) : ∀ u ∈ (smV c).cells.toList, u.oneCell' = true := smC_one c
theorem smallProgram_ret (n : Nat) (w : World) (hn : n ≤ 1000000000) : Ret Tryd.prog 24 [.int .i64 (n : Int)] w (NewPr 56 smTypes (smBody n) w) := by
  refine enter Tryd.func24 rfl Tryd.ntmps24 rfl rfl ?_
  refine Z43 (Z44 (WO_alloc fun w1 hr e1 z1 => ?_))
  replace hr : Blk w1 w.heap.size [.slice none 0 0, .slice none 0 0] _ := hr
  refine goS ?_
  refine WO_ints smTypes rfl rfl (by decide) (by decide) fun w2 ht e2 z2 => ?_
  refine goS ?_
  refine WO_build (e := 56) (k := 6) [.tmp 5, .tmp 6] (vs := [stV 1 0 0 1 (.slice none 0 0) (.slice none 0 0), stV 2 1 0 0 (.slice none 0 0) (.slice none 0 0)]) (cs := smHeadC) rfl rfl rfl (by decide) (by decide) (by simp [stV, Value.cells]) rfl fun w3 hb e3 z3 => ?_
  refine goS ?_
  refine WO_alloc fun w4 hp e4 z4 => ?_
  refine WO_storeS (k := 2) (vs := [.slice (some ⟨w1.heap.size, 0, none⟩) 4 4, .slice (some ⟨w2.heap.size, 0, none⟩) 2 2]) rfl rfl rfl (by simp; exact ⟨rfl, rfl⟩) hp (by decide) fun w5 hp5 o5 => ?_
  replace hp5 : Blk w5 w3.heap.size [.slice (some ⟨w1.heap.size, 0, none⟩) 4 4, .slice (some ⟨w2.heap.size, 0, none⟩) 2 2] _ := hp5
  have e5 : Ext w3 w5 := e4.only o5 (Nat.le_refl _)
  have e05 := ((e1.trans e2).trans e3).trans e5
  have s1 := e1.size_le
  have s5 := o5.size
  generalize htv : Value.slice (some ⟨w1.heap.size, 0, none⟩) 4 4 = tv at *
  generalize hB : w2.heap.size = B at *
  have hlt := hp5.lt
  refine goS ?_
  refine W_loop (α := Nat × Nat × Ss × Value) (fun p => [(2, .pointer (some ⟨w.heap.size, 0, none⟩)), (3, .pointer (some ⟨w3.heap.size, 0, none⟩)), (0, .int .i64 (p.2.1 : Int)), (9, .int .i64 (p.1 : Int))])
    (fun p w' => p.1 ≤ 4 ∧ p.2.1 ≤ n ∧ p.2.2.1.app (smL (4 - p.1) p.2.1) = smBody n ∧ p.2.2.1.len = 2 + p.1 ∧ Ext w w' ∧ w3.heap.size < w'.heap.size ∧ Blk w' w.heap.size [.slice none 0 0, .slice none 0 0] 26 ∧ Blk w' w3.heap.size [tv, p.2.2.2] 26 ∧ OwnI w' tv smTypes [w1.heap.size] ∧ FlatS 56 B w' p.2.2.1 p.2.2.2 ∧ p.2.2.2.ownBlock ≠ some w3.heap.size ∧ (∀ b, p.2.2.2.ownBlock = some b → B ≤ b)) (fun p => 4 - p.1)
    (0, n, smHead, _) (by repeat (first | exact True.intro | refine And.intro rfl ?_)) ⟨Nat.zero_le _, Nat.le_refl _, rfl, rfl, e05, hlt, (((hr.ext e2).ext e3).ext e5), hp5, (ht.ext e3).ext e5, smHead_flat (hb.ext e5) (Nat.le_refl _), by simp [Value.ownBlock]; omega, by simp [Value.ownBlock]⟩ ?_
  rintro ⟨i, m, d, v⟩ w6 ⟨hi, hm, hap, hdl, he, hsz, hr, hp, ht, ⟨xs, k1, k2⟩, hvp, hvB⟩
  simp only at hi hm hap hdl he hsz hr hp ht k1 k2 hvp hvB ⊢
  refine goS ?_
  refine Z52 rfl (fun hc => ?_) (fun hc => ?_)
  · have hlt4 : i < 4 := by simp at hc; omega
    have hc8 : m % 8 < 8 := Nat.mod_lt _ (by decide)
    generalize hcd : m % 8 = c at hc8
    have hcm : (m : Int) % 8 = (c : Int) := by omega
    refine goS ?_
    refine W_held0 (w3.heap.size :: v.ownBlock.toList) [(2, .pointer (some ⟨w.heap.size, 0, none⟩)), (3, .pointer (some ⟨w3.heap.size, 0, none⟩)), (0, .int .i64 (m : Int)), (9, .int .i64 (i : Int))] (SmGrew 56 26 B w3.heap.size tv v d c w6) (by kernel_rfl) (fun ws es hS => ?_) (fun w7 hR => ?_)
    · replace hp := hp.ext es
      have hss := es.size_le
      first | refine Z82 0 rfl (by kernel_rfl) (by kernel_rfl) (by kernel_rfl) (by assumption) (fun w' hw' => Z56 rfl) ?_ | refine Z82 0 rfl (by kernel_rfl) (by kernel_rfl) (by kernel_rfl) (by assumption) (fun w' hw' => Z63 rfl rfl) ?_ | refine Z82 0 rfl (by kernel_rfl) (by kernel_rfl) (by kernel_rfl) (by assumption) (fun w' hw' => Z64 rfl rfl) ?_ | refine Z82 0 rfl (by kernel_rfl) (by kernel_rfl) (by kernel_rfl) (by assumption) (fun w' hw' => Z75 rfl rfl (by omega)) ?_ | refine Z82 0 rfl (by kernel_rfl) (by kernel_rfl) (by kernel_rfl) (by assumption) (fun w' hw' => Z72 rfl) ?_ | refine Z82 0 rfl (by kernel_rfl) (by kernel_rfl) (by kernel_rfl) (by assumption) (fun w' hw' => Z69 rfl rfl rfl (by omega)) ?_ | refine Z82 0 rfl (by kernel_rfl) (by kernel_rfl) (by kernel_rfl) (by assumption) (fun w' hw' => Z30 rfl (by rfl) (by simp only [Z84, List.set_cons_zero, List.set_cons_succ]; rfl)) ?_
      first | refine Z82 2 rfl (by kernel_rfl) (by kernel_rfl) (by kernel_rfl) (by assumption) (fun w' hw' => Z56 rfl) ?_ | refine Z82 2 rfl (by kernel_rfl) (by kernel_rfl) (by kernel_rfl) (by assumption) (fun w' hw' => Z63 rfl rfl) ?_ | refine Z82 2 rfl (by kernel_rfl) (by kernel_rfl) (by kernel_rfl) (by assumption) (fun w' hw' => Z64 rfl rfl) ?_ | refine Z82 2 rfl (by kernel_rfl) (by kernel_rfl) (by kernel_rfl) (by assumption) (fun w' hw' => Z75 rfl rfl (by omega)) ?_ | refine Z82 2 rfl (by kernel_rfl) (by kernel_rfl) (by kernel_rfl) (by assumption) (fun w' hw' => Z72 rfl) ?_ | refine Z82 2 rfl (by kernel_rfl) (by kernel_rfl) (by kernel_rfl) (by assumption) (fun w' hw' => Z69 rfl rfl rfl (by omega)) ?_ | refine Z82 2 rfl (by kernel_rfl) (by kernel_rfl) (by kernel_rfl) (by assumption) (fun w' hw' => Z30 rfl (by rfl) (by simp only [Z84, List.set_cons_zero, List.set_cons_succ]; rfl)) ?_
      refine Z82 3 rfl (by kernel_rfl) (by kernel_rfl) (by kernel_rfl) (by assumption) (fun w' hw' => Z78 rfl rfl (by omega) (by omega)) ?_
      rw [hcm]
      refine WH_two 1 4 rfl rfl (by kernel_rfl) ?_ ?_
      · refine Z10 rfl hp rfl (Z31 (at_held hS ?_))
        refine WX_call 4 rfl (by kernel_rfl) rfl (smallStmt_ret c ws hc8) ?_
        rintro _ wc ⟨rfl, ec⟩
        refine ⟨ec.chg _, ?_⟩
        refine WH_one 5 rfl (by kernel_rfl) (WO_build (e := 56) (k := 6) [.tmp 15] (vs := [smV c]) (cs := (smV c).cells.toList) rfl rfl rfl (by decide) (by decide) (by simp [smV, stV, Value.cells]) (by simp) fun wb hb eb zb => Z31 (at_held ((ec.trans eb).chg _) ?_))
        refine WH_appSt 6 7 8 (e := 56) (k := 6) (B := B) (m := d.len) (f := 1) rfl rfl rfl (by kernel_rfl) (by kernel_rfl) (by kernel_rfl) rfl rfl rfl ⟨rfl, rfl⟩ rfl (ownsRow_ext k1 ((es.trans ec).trans eb)) (by rfl) (fun j u hu => by rw [Nat.zero_add]; exact hb.cell hu) (one_smV c) (by have := Ext.size_le ((es.trans ec).trans eb); omega) (by decide) (by omega) (by decide) (hp.ext (ec.trans eb)) (by simp) hvp (fun w' k => (Ext.chg (ec.trans eb) _).trans k) fun v' w' q1 q2 q3 q4 => ?_
        refine WH_done (by kernel_rfl) (by repeat (first | exact True.intro | refine And.intro rfl ?_)) ⟨v', q1, FlatS.more (StkS.ext ((es.trans ec).trans eb) k2) q2 q3, (Ext.chg ((es.trans ec).trans eb) _).trans q3, ?_⟩
        rcases q4 with q4 | q4
        · exact .inl q4
        · exact .inr ⟨_, q4, by have := Ext.size_le ((es.trans ec).trans eb); omega⟩
      · refine WO_call rfl (smallStmt_ret c ws hc8) ?_
        rintro _ wc ⟨rfl, ec⟩
        refine Z31 (at_held (ec.chg _) ?_)
        refine WH_loadBuild 1 5 (e := 56) (k := 6) (f := 1) rfl rfl (by kernel_rfl) (by kernel_rfl) (by kernel_rfl) (by decide) ⟨⟨rfl, rfl⟩, rfl, rfl⟩ rfl rfl (by rfl) (by decide) (hp.ext ec) rfl (fun w' k => (ec.trans k).chg _) fun σ' wb l1 l2 lk hb eb zb => ?_
        refine WH_appSt 6 7 8 (e := 56) (k := 6) (B := B) (m := d.len) (f := 1) rfl rfl rfl (by kernel_rfl) (by kernel_rfl) (by kernel_rfl) l1 l2 (by rw [lk _ rfl]; rfl) ⟨rfl, rfl⟩ rfl (ownsRow_ext k1 ((es.trans ec).trans eb)) (by rfl) (fun j u hu => by rw [Nat.zero_add]; exact hb.cell hu) (one_smV c) (by have := Ext.size_le ((es.trans ec).trans eb); omega) (by decide) (by omega) (by decide) (hp.ext (ec.trans eb)) (by simp) hvp (fun w' k => (Ext.chg (ec.trans eb) _).trans k) fun v' w' q1 q2 q3 q4 => ?_
        refine WH_done (by kernel_rfl) (sub_kept (ds := [12, 16, 17, 18]) (by repeat (first | exact True.intro | refine And.intro rfl ?_)) (((lk.mono (by simp)).put (by simp)).put (by simp)) rfl) ⟨v', q1, FlatS.more (StkS.ext ((es.trans ec).trans eb) k2) q2 q3, (Ext.chg ((es.trans ec).trans eb) _).trans q3, ?_⟩
        rcases q4 with q4 | q4
        · exact .inl q4
        · exact .inr ⟨_, q4, by have := Ext.size_le ((es.trans ec).trans eb); omega⟩
    · obtain ⟨v', q1, q2, q3, q4⟩ := hR
      have hF : ∀ b ∈ w3.heap.size :: v.ownBlock.toList, B ≤ b := fun b hb => by
        rcases List.mem_cons.1 hb with rfl | hb
        · omega
        · exact hvB b (by simpa using hb)
      have hno : ∀ x, x < B → x ∉ w3.heap.size :: v.ownBlock.toList := fun x hx hm => by have := hF x hm; omega
      have s7 := q3.size
      have hdv : (m : Int) / 8 = ((m / 8 : Nat) : Int) := by omega
      refine goS ?_
      rw [hdv]
      refine goS ?_
      refine at_loop (i + 1, m / 8, d.app (smSt c .nil), v') (by repeat (first | exact True.intro | refine And.intro rfl ?_)) ⟨by simp only; omega, by simp only; omega, ?_, by simp only [Ss.len_app, smSt, Ss.len]; omega, q3.ext_of he (fun b hb => by have := hF b hb; omega), by omega, hr.chg q3 (hno _ (by omega)), q1, ht.chg q3 (by simpa using hno _ (by omega)), q2, ?_, ?_⟩ (by simp only; omega)
      · simp only
        subst hcd
        rw [smL_step, show 4 - (i + 1) + 1 = 4 - i from by omega]
        exact hap
      · simp only
        rcases q4 with q4 | ⟨b, q4, hb⟩
        · rw [q4]; exact hvp
        · rw [q4]; intro e; have := Option.some.inj e; omega
      · simp only
        intro b hb
        rcases q4 with q4 | ⟨b', q4, hb'⟩
        · rw [q4] at hb; exact hvB b hb
        · rw [q4] at hb; have := Option.some.inj hb; omega
  · have h4 : i = 4 := by simp at hc; omega
    subst h4
    simp only [Nat.sub_self, smL, Ss.app_nil] at hap
    have hone := one_of_row k1
    have htv1 : tv.oneCell' = true := ht.one
    have hrow : RowS 56 w6 v (smBody n) v.ownBlock.toList := by rw [← hap]; exact FlatS.row ⟨xs, k1, k2⟩
    refine goS ?_
    refine WO_loadSB rfl hp rfl ?_
    refine WO_storeS (k := 2) (vs := [tv, v]) rfl rfl rfl (by simp; exact ⟨htv1, hone⟩) hr (by decide) fun w7 hr7 o7 => ?_
    replace hr7 : Blk w7 w.heap.size [tv, v] _ := hr7
    refine goS ?_
    refine at_retC rfl rfl hr7 rfl (NewPr.mk (w1 := w) (ht.chg o7.chg (by simp; omega)) (hrow.chg o7.chg (fun z hz hm => by simp at hm hz; subst hm; have := hvB _ hz; omega)) ?_ ?_ (he.only o7 (Nat.le_refl _)))
    · refine List.nodup_append.2 ⟨by simp, nodup_own v, fun a ha b hb e => ?_⟩
      simp at ha hb
      subst e; subst ha
      have := hvB _ hb
      omega
    · intro b hb
      simp at hb
      rcases hb with rfl | hb
      · exact s1
      · have := hvB _ hb; omega
theorem PrB.zero {e : TypeId} {w w' : World} (he : Ext w w') : PrB e [] .nil false w (.tuple #[prV (.slice none 0 0) (.slice none 0 0), .bool false]) w' :=
  ⟨_, _, rfl, ⟨[], [], ⟨none, 0, rfl, ⟨by decide, Nat.le_refl _⟩, .inl ⟨rfl, rfl⟩⟩, RowS.nil_ e w', by simp, by simp⟩, he⟩
theorem SmallProgram_ret (a : Int) (w : World) (ha : -9223372036854775808 ≤ a ∧ a ≤ 9223372036854775807) : Ret Tryd.prog 10 [.int .i64 a] w (PrB 56 (smT a) (smB a) (decide (smOk a)) w) := by
  refine enter Tryd.func10 rfl Tryd.ntmps10 rfl rfl ?_
  refine Z43 (Z44 (WO_alloc fun w1 hr e1 z1 => ?_))
  replace hr : Blk w1 w.heap.size [.slice none 0 0, .slice none 0 0] _ := hr
  refine goS ?_
  refine WO_call rfl (SmallTests_ret w1) ?_
  rintro _ w1 ⟨rfl, rfl⟩
  refine goS ?_
  refine WO_call rfl (within_ret a 0 (4096 - 1) w1) ?_
  rintro _ w1 ⟨rfl, rfl⟩
  by_cases h : smOk a
  · have h' := h
    unfold smOk at h'
    rw [decide_eq_true (show 0 ≤ a ∧ a ≤ 4096 - 1 by omega), decide_eq_true h]
    unfold smT smB
    rw [if_pos h, if_pos h]
    obtain ⟨n, rfl⟩ := Int.eq_ofNat_of_zero_le h'.1
    refine goS ?_
    refine WO_call rfl (smallProgram_ret n w1 (by omega)) ?_
    rintro _ w2 ⟨⟨tv, bv, rfl, hP⟩, e2⟩
    obtain ⟨o1, o2⟩ := hP.ones
    refine WO_storeS (k := 2) (vs := [tv, bv]) rfl rfl rfl (by simp; exact ⟨o1, o2⟩) (hr.ext e2) (by decide) fun w3 hr3 o3 => ?_
    replace hr3 : Blk w3 w.heap.size [tv, bv] _ := hr3
    refine goS ?_
    refine at_ret2G rfl (.cell inferInstance rfl hr3 rfl) (.tmp rfl) ⟨tv, bv, rfl, ?_, (e1.trans e2).only o3 (Nat.le_refl _)⟩
    have hlt := hr.lt
    exact OwnP.wide (OwnP.chgI hP o3.toI (by omega)) (by omega) (by rw [o3.size]; exact Nat.le_refl _)
  · have h' := h
    unfold smOk at h'
    rw [decide_eq_false (show ¬ (0 ≤ a ∧ a ≤ 4096 - 1) by omega), decide_eq_false h]
    unfold smT smB
    rw [if_neg h, if_neg h]
    refine goS ?_
    refine WO_storeS (k := 2) (vs := [.slice none 0 0, .slice none 0 0]) rfl rfl rfl (by intro v hv; simp at hv; subst hv; rfl) hr (by decide) fun w3 hr3 o3 => ?_
    replace hr3 : Blk w3 w.heap.size [.slice none 0 0, .slice none 0 0] _ := hr3
    refine goS ?_
    exact at_ret2G rfl (.cell inferInstance rfl hr3 rfl) (.tmp rfl) (PrB.zero (e1.only o3 (Nat.le_refl _)))
theorem l15Types_ret (w : World) : Ret Tryd.prog 39 [] w fun v w' => v = .slice (some ⟨w.heap.size, 0, none⟩) 4 4 ∧ OwnI w' v smTypes [w.heap.size] ∧ Ext w w' ∧ w'.heap.size = w.heap.size + 1 := by
  refine enter Tryd.func39 rfl Tryd.ntmps39 rfl rfl ?_
  refine goS ?_
  refine WO_ints smTypes rfl rfl (by decide) (by decide) fun w2 ht e2 z2 => ?_
  refine goS ?_
  exact at_ret1 rfl rfl ⟨rfl, ht, e2, z2⟩
theorem l15Stmts_cells (w : World) : Ret Tryd.prog 38 [] w fun v w' => v = .slice (some ⟨w.heap.size, 0, none⟩) 8 8 ∧ Blk w' w.heap.size smAll 56 ∧ Ext w w' := by
  refine enter Tryd.func38 rfl Tryd.ntmps38 rfl rfl ?_
  refine goS ?_
  refine WO_build (e := 56) (k := 6) [.tmp 1, .tmp 2, .tmp 3, .tmp 4, .tmp 5, .tmp 6, .tmp 7, .tmp 8] (vs := [smV 0, smV 1, smV 2, smV 3, smV 4, smV 5, smV 6, smV 7]) (cs := smAll) rfl rfl rfl (by decide) (by decide) (by simp [smV, stV, Value.cells]) rfl fun w2 hb e2 z2 => ?_
  refine goS ?_
  exact at_ret1 rfl rfl ⟨rfl, hb, e2⟩
theorem l15Program_ret (n : Nat) (w : World) (hn : n ≤ 1000000000) : Ret Tryd.prog 26 [.int .i64 (n : Int)] w (NewPr 56 smTypes (smBody n) w) := by
  refine enter Tryd.func26 rfl Tryd.ntmps26 rfl rfl ?_
  refine Z43 (Z44 (WO_alloc fun w1 hr e1 z1 => ?_))
  replace hr : Blk w1 w.heap.size [.slice none 0 0, .slice none 0 0] _ := hr
  refine goS ?_
  refine WO_call rfl (l15Types_ret w1) ?_
  rintro _ w2 ⟨rfl, ht, e2, z2⟩
  refine goS ?_
  refine WO_build (e := 56) (k := 6) [.tmp 7, .tmp 8] (vs := [stV 1 0 0 1 (.slice none 0 0) (.slice none 0 0), stV 2 1 0 0 (.slice none 0 0) (.slice none 0 0)]) (cs := smHeadC) rfl rfl rfl (by decide) (by decide) (by simp [stV, Value.cells]) rfl fun w3 hb e3 z3 => ?_
  refine goS ?_
  refine WO_alloc fun w4 hp e4 z4 => ?_
  refine WO_storeS (k := 2) (vs := [.slice (some ⟨w1.heap.size, 0, none⟩) 4 4, .slice (some ⟨w2.heap.size, 0, none⟩) 2 2]) rfl rfl rfl (by simp; exact ⟨rfl, rfl⟩) hp (by decide) fun w5 hp5 o5 => ?_
  replace hp5 : Blk w5 w3.heap.size [.slice (some ⟨w1.heap.size, 0, none⟩) 4 4, .slice (some ⟨w2.heap.size, 0, none⟩) 2 2] _ := hp5
  have e5 : Ext w3 w5 := e4.only o5 (Nat.le_refl _)
  have e05 := ((e1.trans e2).trans e3).trans e5
  have s1 := e1.size_le
  have s5 := o5.size
  generalize htv : Value.slice (some ⟨w1.heap.size, 0, none⟩) 4 4 = tv at *
  generalize hB : w2.heap.size = B at *
  have hlt := hp5.lt
  refine goS ?_
  refine WO_call rfl (l15Stmts_cells w5) ?_
  rintro _ w5' ⟨rfl, hL, eL⟩
  have eL0 := e05.trans eL
  have sL := eL.size_le
  generalize hLb : w5.heap.size = lb at *
  refine goS ?_
  refine W_loop (α := Nat × Nat × Ss × Value) (fun p => [(2, .pointer (some ⟨w.heap.size, 0, none⟩)), (3, .pointer (some ⟨w3.heap.size, 0, none⟩)), (4, .slice (some ⟨lb, 0, none⟩) 8 8), (0, .int .i64 (p.2.1 : Int)), (5, .int .i64 (p.1 : Int))])
    (fun p w' => p.1 ≤ 4 ∧ p.2.1 ≤ n ∧ p.2.2.1.app (smL (4 - p.1) p.2.1) = smBody n ∧ p.2.2.1.len = 2 + p.1 ∧ Ext w w' ∧ w3.heap.size < w'.heap.size ∧ (lb < w'.heap.size ∧ Blk w' lb smAll 56 ∧ p.2.2.2.ownBlock ≠ some lb) ∧ Blk w' w.heap.size [.slice none 0 0, .slice none 0 0] 26 ∧ Blk w' w3.heap.size [tv, p.2.2.2] 26 ∧ OwnI w' tv smTypes [w1.heap.size] ∧ FlatS 56 B w' p.2.2.1 p.2.2.2 ∧ p.2.2.2.ownBlock ≠ some w3.heap.size ∧ (∀ b, p.2.2.2.ownBlock = some b → B ≤ b)) (fun p => 4 - p.1)
    (0, n, smHead, _) (by repeat (first | exact True.intro | refine And.intro rfl ?_)) ⟨Nat.zero_le _, Nat.le_refl _, rfl, rfl, eL0, by omega, ⟨hL.lt, hL, by simp [Value.ownBlock]; omega⟩, (((hr.ext e2).ext e3).ext e5).ext eL, hp5.ext eL, ((ht.ext e3).ext e5).ext eL, smHead_flat ((hb.ext e5).ext eL) (Nat.le_refl _), by simp [Value.ownBlock]; omega, by simp [Value.ownBlock]⟩ ?_
  rintro ⟨i, m, d, v⟩ w6 ⟨hi, hm, hap, hdl, he, hsz, ⟨hlb, hL, hvL⟩, hr, hp, ht, ⟨xs, k1, k2⟩, hvp, hvB⟩
  simp only at hi hm hap hdl he hsz hlb hL hvL hr hp ht k1 k2 hvp hvB ⊢
  refine goS ?_
  refine WO_call rfl (l15Size_ret w6) ?_
  rintro _ w6 ⟨rfl, rfl⟩
  refine goS ?_
  refine Z52 rfl (fun hc => ?_) (fun hc => ?_)
  · have hlt4 : i < 4 := by simp at hc; omega
    have hc8 : m % 8 < 8 := Nat.mod_lt _ (by decide)
    generalize hcd : m % 8 = c at hc8
    have hcm : (m : Int) % 8 = (c : Int) := by omega
    refine goS ?_
    refine W_held0 (w3.heap.size :: v.ownBlock.toList) [(2, .pointer (some ⟨w.heap.size, 0, none⟩)), (3, .pointer (some ⟨w3.heap.size, 0, none⟩)), (4, .slice (some ⟨lb, 0, none⟩) 8 8), (0, .int .i64 (m : Int)), (5, .int .i64 (i : Int))] (SmGrew 56 26 B w3.heap.size tv v d c w6) (by kernel_rfl) (fun ws es hS => ?_) (fun w7 hR => ?_)
    · replace hp := hp.ext es
      have hss := es.size_le
      first | refine Z82 0 rfl (by kernel_rfl) (by kernel_rfl) (by kernel_rfl) (by assumption) (fun w' hw' => Z56 rfl) ?_ | refine Z82 0 rfl (by kernel_rfl) (by kernel_rfl) (by kernel_rfl) (by assumption) (fun w' hw' => Z63 rfl rfl) ?_ | refine Z82 0 rfl (by kernel_rfl) (by kernel_rfl) (by kernel_rfl) (by assumption) (fun w' hw' => Z64 rfl rfl) ?_ | refine Z82 0 rfl (by kernel_rfl) (by kernel_rfl) (by kernel_rfl) (by assumption) (fun w' hw' => Z75 rfl rfl (by omega)) ?_ | refine Z82 0 rfl (by kernel_rfl) (by kernel_rfl) (by kernel_rfl) (by assumption) (fun w' hw' => Z72 rfl) ?_ | refine Z82 0 rfl (by kernel_rfl) (by kernel_rfl) (by kernel_rfl) (by assumption) (fun w' hw' => Z69 rfl rfl rfl (by omega)) ?_ | refine Z82 0 rfl (by kernel_rfl) (by kernel_rfl) (by kernel_rfl) (by assumption) (fun w' hw' => Z30 rfl (by rfl) (by simp only [Z84, List.set_cons_zero, List.set_cons_succ]; rfl)) ?_
      first | refine Z82 2 rfl (by kernel_rfl) (by kernel_rfl) (by kernel_rfl) (by assumption) (fun w' hw' => Z56 rfl) ?_ | refine Z82 2 rfl (by kernel_rfl) (by kernel_rfl) (by kernel_rfl) (by assumption) (fun w' hw' => Z63 rfl rfl) ?_ | refine Z82 2 rfl (by kernel_rfl) (by kernel_rfl) (by kernel_rfl) (by assumption) (fun w' hw' => Z64 rfl rfl) ?_ | refine Z82 2 rfl (by kernel_rfl) (by kernel_rfl) (by kernel_rfl) (by assumption) (fun w' hw' => Z75 rfl rfl (by omega)) ?_ | refine Z82 2 rfl (by kernel_rfl) (by kernel_rfl) (by kernel_rfl) (by assumption) (fun w' hw' => Z72 rfl) ?_ | refine Z82 2 rfl (by kernel_rfl) (by kernel_rfl) (by kernel_rfl) (by assumption) (fun w' hw' => Z69 rfl rfl rfl (by omega)) ?_ | refine Z82 2 rfl (by kernel_rfl) (by kernel_rfl) (by kernel_rfl) (by assumption) (fun w' hw' => Z30 rfl (by rfl) (by simp only [Z84, List.set_cons_zero, List.set_cons_succ]; rfl)) ?_
      first | refine Z82 3 rfl (by kernel_rfl) (by kernel_rfl) (by kernel_rfl) (by assumption) (fun w' hw' => Z56 rfl) ?_ | refine Z82 3 rfl (by kernel_rfl) (by kernel_rfl) (by kernel_rfl) (by assumption) (fun w' hw' => Z63 rfl rfl) ?_ | refine Z82 3 rfl (by kernel_rfl) (by kernel_rfl) (by kernel_rfl) (by assumption) (fun w' hw' => Z64 rfl rfl) ?_ | refine Z82 3 rfl (by kernel_rfl) (by kernel_rfl) (by kernel_rfl) (by assumption) (fun w' hw' => Z75 rfl rfl (by omega)) ?_ | refine Z82 3 rfl (by kernel_rfl) (by kernel_rfl) (by kernel_rfl) (by assumption) (fun w' hw' => Z72 rfl) ?_ | refine Z82 3 rfl (by kernel_rfl) (by kernel_rfl) (by kernel_rfl) (by assumption) (fun w' hw' => Z69 rfl rfl rfl (by omega)) ?_ | refine Z82 3 rfl (by kernel_rfl) (by kernel_rfl) (by kernel_rfl) (by assumption) (fun w' hw' => Z30 rfl (by rfl) (by simp only [Z84, List.set_cons_zero, List.set_cons_succ]; rfl)) ?_
      first | refine Z82 4 rfl (by kernel_rfl) (by kernel_rfl) (by kernel_rfl) (by assumption) (fun w' hw' => Z56 rfl) ?_ | refine Z82 4 rfl (by kernel_rfl) (by kernel_rfl) (by kernel_rfl) (by assumption) (fun w' hw' => Z63 rfl rfl) ?_ | refine Z82 4 rfl (by kernel_rfl) (by kernel_rfl) (by kernel_rfl) (by assumption) (fun w' hw' => Z64 rfl rfl) ?_ | refine Z82 4 rfl (by kernel_rfl) (by kernel_rfl) (by kernel_rfl) (by assumption) (fun w' hw' => Z75 rfl rfl (by omega)) ?_ | refine Z82 4 rfl (by kernel_rfl) (by kernel_rfl) (by kernel_rfl) (by assumption) (fun w' hw' => Z72 rfl) ?_ | refine Z82 4 rfl (by kernel_rfl) (by kernel_rfl) (by kernel_rfl) (by assumption) (fun w' hw' => Z69 rfl rfl rfl (by omega)) ?_ | refine Z82 4 rfl (by kernel_rfl) (by kernel_rfl) (by kernel_rfl) (by assumption) (fun w' hw' => Z30 rfl (by rfl) (by simp only [Z84, List.set_cons_zero, List.set_cons_succ]; rfl)) ?_
      first | refine Z82 5 rfl (by kernel_rfl) (by kernel_rfl) (by kernel_rfl) (by assumption) (fun w' hw' => Z56 rfl) ?_ | refine Z82 5 rfl (by kernel_rfl) (by kernel_rfl) (by kernel_rfl) (by assumption) (fun w' hw' => Z63 rfl rfl) ?_ | refine Z82 5 rfl (by kernel_rfl) (by kernel_rfl) (by kernel_rfl) (by assumption) (fun w' hw' => Z64 rfl rfl) ?_ | refine Z82 5 rfl (by kernel_rfl) (by kernel_rfl) (by kernel_rfl) (by assumption) (fun w' hw' => Z75 rfl rfl (by omega)) ?_ | refine Z82 5 rfl (by kernel_rfl) (by kernel_rfl) (by kernel_rfl) (by assumption) (fun w' hw' => Z72 rfl) ?_ | refine Z82 5 rfl (by kernel_rfl) (by kernel_rfl) (by kernel_rfl) (by assumption) (fun w' hw' => Z69 rfl rfl rfl (by omega)) ?_ | refine Z82 5 rfl (by kernel_rfl) (by kernel_rfl) (by kernel_rfl) (by assumption) (fun w' hw' => Z30 rfl (by rfl) (by simp only [Z84, List.set_cons_zero, List.set_cons_succ]; rfl)) ?_
      refine Z82 6 rfl (by kernel_rfl) (by kernel_rfl) (by kernel_rfl) (by assumption) (fun w' hw' => Z78 rfl rfl (by omega) (by omega)) ?_
      rw [show (m : Int) % ((8 : Nat) : Int) = (c : Int) from hcm]
      refine Z82 7 rfl (by kernel_rfl) (by kernel_rfl) (by kernel_rfl) (by assumption) (fun w' hw' => Z69 (j := c) rfl rfl rfl hc8) ?_
      refine Z82 8 rfl (by kernel_rfl) (by kernel_rfl) (by kernel_rfl) (by assumption) (fun w' hw' => q_loadS (cs := smC c) rfl rfl (smAll_cell ((hL.ext es).chg hw' (by simp; exact ⟨by omega, hvL⟩)) hc8)) ?_
      refine WH_loadBuild 1 9 (e := 56) (k := 6) (f := 1) rfl rfl (by kernel_rfl) (by kernel_rfl) (by kernel_rfl) (by decide) ⟨⟨rfl, rfl⟩, rfl, rfl⟩ rfl rfl (by rfl) (by decide) hp rfl (fun w' k => k.chg _) fun σ' wb l1 l2 lk hb eb zb => ?_
      refine WH_appSt 10 11 12 (e := 56) (k := 6) (B := B) (m := d.len) (f := 1) rfl rfl rfl (by kernel_rfl) (by kernel_rfl) (by kernel_rfl) l1 l2 (by rw [lk _ rfl]; rfl) ⟨rfl, rfl⟩ rfl (ownsRow_ext k1 (es.trans eb)) (by rfl) (fun j u hu => by rw [Nat.zero_add]; exact hb.cell hu) (one_smV c) (by have := Ext.size_le (es.trans eb); omega) (by decide) (by omega) (by decide) (hp.ext eb) (by simp) hvp (fun w' k => (Ext.chg eb _).trans k) fun v' w' q1 q2 q3 q4 => ?_
      refine WH_done (by kernel_rfl) (sub_kept (ds := [18, 26, 27, 28]) (by repeat (first | exact True.intro | refine And.intro rfl ?_)) (((lk.mono (by simp)).put (by simp)).put (by simp)) rfl) ⟨v', q1, FlatS.more (StkS.ext (es.trans eb) k2) q2 q3, (Ext.chg (es.trans eb) _).trans q3, ?_⟩
      rcases q4 with q4 | q4
      · exact .inl q4
      · exact .inr ⟨_, q4, by have := Ext.size_le (es.trans eb); omega⟩
    · obtain ⟨v', q1, q2, q3, q4⟩ := hR
      have hF : ∀ b ∈ w3.heap.size :: v.ownBlock.toList, B ≤ b := fun b hb => by
        rcases List.mem_cons.1 hb with rfl | hb
        · omega
        · exact hvB b (by simpa using hb)
      have hno : ∀ x, x < B → x ∉ w3.heap.size :: v.ownBlock.toList := fun x hx hm => by have := hF x hm; omega
      have s7 := q3.size
      have hdv : (m : Int) / 8 = ((m / 8 : Nat) : Int) := by omega
      refine goS ?_
      rw [show (m : Int) / ((8 : Nat) : Int) = ((m / 8 : Nat) : Int) from hdv]
      refine goS ?_
      refine at_loop (i + 1, m / 8, d.app (smSt c .nil), v') (by repeat (first | exact True.intro | refine And.intro rfl ?_)) ⟨by simp only; omega, by simp only; omega, ?_, by simp only [Ss.len_app, smSt, Ss.len]; omega, q3.ext_of he (fun b hb => by have := hF b hb; omega), by omega, ⟨by omega, hL.chg q3 (by simp; exact ⟨by omega, hvL⟩), ?_⟩, hr.chg q3 (hno _ (by omega)), q1, ht.chg q3 (by simpa using hno _ (by omega)), q2, ?_, ?_⟩ (by simp only; omega)
      · simp only
        subst hcd
        rw [smL_step, show 4 - (i + 1) + 1 = 4 - i from by omega]
        exact hap
      · simp only
        rcases q4 with q4 | ⟨b, q4, hb⟩
        · rw [q4]; exact hvL
        · rw [q4]; intro e; have := Option.some.inj e; omega
      · simp only
        rcases q4 with q4 | ⟨b, q4, hb⟩
        · rw [q4]; exact hvp
        · rw [q4]; intro e; have := Option.some.inj e; omega
      · simp only
        intro b hb
        rcases q4 with q4 | ⟨b', q4, hb'⟩
        · rw [q4] at hb; exact hvB b hb
        · rw [q4] at hb; have := Option.some.inj hb; omega
  · have h4 : i = 4 := by simp at hc; omega
    subst h4
    simp only [Nat.sub_self, smL, Ss.app_nil] at hap
    have hone := one_of_row k1
    have htv1 : tv.oneCell' = true := ht.one
    have hrow : RowS 56 w6 v (smBody n) v.ownBlock.toList := by rw [← hap]; exact FlatS.row ⟨xs, k1, k2⟩
    refine goS ?_
    refine WO_loadSB rfl hp rfl ?_
    refine WO_storeS (k := 2) (vs := [tv, v]) rfl rfl rfl (by simp; exact ⟨htv1, hone⟩) hr (by decide) fun w7 hr7 o7 => ?_
    replace hr7 : Blk w7 w.heap.size [tv, v] _ := hr7
    refine goS ?_
    refine at_retC rfl rfl hr7 rfl (NewPr.mk (w1 := w) (ht.chg o7.chg (by simp; omega)) (hrow.chg o7.chg (fun z hz hm => by simp at hm hz; subst hm; have := hvB _ hz; omega)) ?_ ?_ (he.only o7 (Nat.le_refl _)))
    · refine List.nodup_append.2 ⟨by simp, nodup_own v, fun a ha b hb e => ?_⟩
      simp at ha hb
      subst e; subst ha
      have := hvB _ hb
      omega
    · intro b hb
      simp at hb
      rcases hb with rfl | hb
      · exact s1
      · have := hvB _ hb; omega
theorem sSmallProgram_ret (a : Int) (w : World) (ha : -9223372036854775808 ≤ a ∧ a ≤ 9223372036854775807) : Ret Tryd.prog 11 [.int .i64 a] w (PrB 56 (smT a) (smB a) (decide (smOk a)) w) := by
  refine enter Tryd.func11 rfl Tryd.ntmps11 rfl rfl ?_
  refine Z43 (Z44 (WO_alloc fun w1 hr e1 z1 => ?_))
  replace hr : Blk w1 w.heap.size [.slice none 0 0, .slice none 0 0] _ := hr
  have no : ¬ smOk a → ∀ w2, Ext w1 w2 → ∀ w3, Blk w3 w.heap.size [.slice none 0 0, .slice none 0 0] 26 → Only w.heap.size w2 w3 → PrB 56 (smT a) (smB a) (decide (smOk a)) w (.tuple #[prV (.slice none 0 0) (.slice none 0 0), .bool false]) w3 := fun h w2 e2 w3 hb o => by
    unfold smT smB
    rw [if_neg h, if_neg h, decide_eq_false h]
    exact PrB.zero ((e1.trans e2).only o (Nat.le_refl _))
  by_cases h0 : a < 0
  · (refine goS ?_; repeat' (first | ((refine Z51 rfl rfl (fun c' hc' => ?_)); cases c' <;> (try simp only [decide_eq_true_eq, decide_eq_false_iff_not, beq_iff_eq, beq_eq_false_iff_ne, bne_iff_ne, bne_eq_false_iff_eq, ne_eq, gt_iff_lt, ge_iff_le, Int.not_lt, Int.not_le, Bool.not_eq_true', Bool.not_eq_false', Bool.not_true, Bool.not_false, reduceCtorEq, Decidable.not_not, not_true_eq_false, Bool.true_eq_false, Bool.false_eq_true] at hc') <;> (try (exfalso; omega)) <;> refine goS ?_) | ((refine Z52 rfl (fun hc' => ?_) (fun hc' => ?_)) <;> (try simp only [decide_eq_true_eq, decide_eq_false_iff_not, beq_iff_eq, beq_eq_false_iff_ne, bne_iff_ne, bne_eq_false_iff_eq, ne_eq, gt_iff_lt, ge_iff_le, Int.not_lt, Int.not_le, Bool.not_eq_true', Bool.not_eq_false', Bool.not_true, Bool.not_false, reduceCtorEq, Decidable.not_not, not_true_eq_false, Bool.true_eq_false, Bool.false_eq_true] at hc') <;> (try (exfalso; omega)) <;> refine goS ?_)))
    refine WO_storeS (k := 2) (vs := [.slice none 0 0, .slice none 0 0]) rfl rfl rfl (by intro v hv; simp at hv; subst hv; rfl) hr (by decide) fun w3 hr3 o3 => ?_
    replace hr3 : Blk w3 w.heap.size [.slice none 0 0, .slice none 0 0] _ := hr3
    refine goS ?_
    exact at_ret2G rfl (.cell inferInstance rfl hr3 rfl) (.tmp rfl) (no (by unfold smOk; omega) w1 (Ext.refl _) w3 hr3 o3)
  · (refine goS ?_; repeat' (first | ((refine Z51 rfl rfl (fun c' hc' => ?_)); cases c' <;> (try simp only [decide_eq_true_eq, decide_eq_false_iff_not, beq_iff_eq, beq_eq_false_iff_ne, bne_iff_ne, bne_eq_false_iff_eq, ne_eq, gt_iff_lt, ge_iff_le, Int.not_lt, Int.not_le, Bool.not_eq_true', Bool.not_eq_false', Bool.not_true, Bool.not_false, reduceCtorEq, Decidable.not_not, not_true_eq_false, Bool.true_eq_false, Bool.false_eq_true] at hc') <;> (try (exfalso; omega)) <;> refine goS ?_) | ((refine Z52 rfl (fun hc' => ?_) (fun hc' => ?_)) <;> (try simp only [decide_eq_true_eq, decide_eq_false_iff_not, beq_iff_eq, beq_eq_false_iff_ne, bne_iff_ne, bne_eq_false_iff_eq, ne_eq, gt_iff_lt, ge_iff_le, Int.not_lt, Int.not_le, Bool.not_eq_true', Bool.not_eq_false', Bool.not_true, Bool.not_false, reduceCtorEq, Decidable.not_not, not_true_eq_false, Bool.true_eq_false, Bool.false_eq_true] at hc') <;> (try (exfalso; omega)) <;> refine goS ?_)))
    refine WO_call rfl (sSmallTests_ret w1) ?_
    rintro _ w2 ⟨rfl, e2⟩
    replace hr := hr.ext e2
    by_cases h1 : a ≥ 4096
    · (refine goS ?_; repeat' (first | ((refine Z51 rfl rfl (fun c' hc' => ?_)); cases c' <;> (try simp only [decide_eq_true_eq, decide_eq_false_iff_not, beq_iff_eq, beq_eq_false_iff_ne, bne_iff_ne, bne_eq_false_iff_eq, ne_eq, gt_iff_lt, ge_iff_le, Int.not_lt, Int.not_le, Bool.not_eq_true', Bool.not_eq_false', Bool.not_true, Bool.not_false, reduceCtorEq, Decidable.not_not, not_true_eq_false, Bool.true_eq_false, Bool.false_eq_true] at hc') <;> (try (exfalso; omega)) <;> refine goS ?_) | ((refine Z52 rfl (fun hc' => ?_) (fun hc' => ?_)) <;> (try simp only [decide_eq_true_eq, decide_eq_false_iff_not, beq_iff_eq, beq_eq_false_iff_ne, bne_iff_ne, bne_eq_false_iff_eq, ne_eq, gt_iff_lt, ge_iff_le, Int.not_lt, Int.not_le, Bool.not_eq_true', Bool.not_eq_false', Bool.not_true, Bool.not_false, reduceCtorEq, Decidable.not_not, not_true_eq_false, Bool.true_eq_false, Bool.false_eq_true] at hc') <;> (try (exfalso; omega)) <;> refine goS ?_)))
      refine WO_storeS (k := 2) (vs := [.slice none 0 0, .slice none 0 0]) rfl rfl rfl (by intro v hv; simp at hv; subst hv; rfl) hr (by decide) fun w3 hr3 o3 => ?_
      replace hr3 : Blk w3 w.heap.size [.slice none 0 0, .slice none 0 0] _ := hr3
      refine goS ?_
      exact at_ret2G rfl (.cell inferInstance rfl hr3 rfl) (.tmp rfl) (no (by unfold smOk; omega) w2 e2 w3 hr3 o3)
    · have h : smOk a := by unfold smOk; omega
      rw [decide_eq_true h]
      unfold smT smB
      rw [if_pos h, if_pos h]
      obtain ⟨n, rfl⟩ := Int.eq_ofNat_of_zero_le (show 0 ≤ a by omega)
      (refine goS ?_; repeat' (first | ((refine Z51 rfl rfl (fun c' hc' => ?_)); cases c' <;> (try simp only [decide_eq_true_eq, decide_eq_false_iff_not, beq_iff_eq, beq_eq_false_iff_ne, bne_iff_ne, bne_eq_false_iff_eq, ne_eq, gt_iff_lt, ge_iff_le, Int.not_lt, Int.not_le, Bool.not_eq_true', Bool.not_eq_false', Bool.not_true, Bool.not_false, reduceCtorEq, Decidable.not_not, not_true_eq_false, Bool.true_eq_false, Bool.false_eq_true] at hc') <;> (try (exfalso; omega)) <;> refine goS ?_) | ((refine Z52 rfl (fun hc' => ?_) (fun hc' => ?_)) <;> (try simp only [decide_eq_true_eq, decide_eq_false_iff_not, beq_iff_eq, beq_eq_false_iff_ne, bne_iff_ne, bne_eq_false_iff_eq, ne_eq, gt_iff_lt, ge_iff_le, Int.not_lt, Int.not_le, Bool.not_eq_true', Bool.not_eq_false', Bool.not_true, Bool.not_false, reduceCtorEq, Decidable.not_not, not_true_eq_false, Bool.true_eq_false, Bool.false_eq_true] at hc') <;> (try (exfalso; omega)) <;> refine goS ?_)))
      refine WO_call rfl (l15Program_ret n w2 (by omega)) ?_
      rintro _ w4 ⟨⟨tv, bv, rfl, hP⟩, e4⟩
      obtain ⟨o1, o2⟩ := hP.ones
      have hlt := hr.lt
      refine WO_storeS (k := 2) (vs := [tv, bv]) rfl rfl rfl (by simp; exact ⟨o1, o2⟩) (hr.ext e4) (by decide) fun w3 hr3 o3 => ?_
      replace hr3 : Blk w3 w.heap.size [tv, bv] _ := hr3
      refine goS ?_
      refine at_ret2G rfl (.cell inferInstance rfl hr3 rfl) (.tmp rfl) ⟨tv, bv, rfl, ?_, ((e1.trans e2).trans e4).only o3 (Nat.le_refl _)⟩
      have := e2.size_le
      exact OwnP.wide (OwnP.chgI hP o3.toI (by omega)) (by omega) (by rw [o3.size]; exact Nat.le_refl _)
end Go.Proofs.YtplcmbipeanjdaaDoor
