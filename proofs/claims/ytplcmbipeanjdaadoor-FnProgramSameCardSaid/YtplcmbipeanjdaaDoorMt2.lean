/-
  What is proved here: the reference's changed copies of programs are programs of bounded size in memory that can be read.
-/
import Derived.Test.YtplcmbipeanjdaaDoorMut
import Derived.Test.YtplcmbipeanjdaaDoorLil
namespace Go.Proofs.YtplcmbipeanjdaaDoor
set_option linter.unusedVariables false
set_option linter.unusedSimpArgs false
set_option linter.unnecessarySimpa false
open Go.RowKit

/-- A program by value in new memory, both of whose parts can grow. -/
def RowPr (ei e : TypeId) (tl : List Int) (l : Ss) (w : World) (r : Value) (w' : World) : Prop :=
  ∃ tv bv Fb, r = prV tv bv ∧ w'.ownsRow w.heap.size ei 1 tv tl.length (tl.map (.int .i64)) ∧ RowS e w' bv l Fb ∧ (tv.ownBlock.toList ++ Fb).Nodup ∧ (∀ b ∈ tv.ownBlock.toList ++ Fb, w.heap.size ≤ b) ∧ Ext w w'
theorem l1CopyOfR_ret (tv bv : Value) (tl : List Int) (l : Ss) (Ft F : List Nat) (w : World) (ht : IntF w tv tl Ft) (h : StS w bv l F) (hn : tl.length ≤ 1048576) (hn2 : cntL l ≤ 1048576) :
    Ret Tryd.prog 30 [prV tv bv] w (RowPr 3 56 tl l w) := by
  refine enter Tryd.func30 rfl Tryd.ntmps30 rfl rfl ?_
  refine Z43 (Z44 (WO_box rfl fun w1 hs e1 z1 => WO_alloc fun w2 hr e2 z2 => ?_))
  replace hs : Blk w2 w.heap.size [tv, bv] _ := Blk.ext hs e2
  replace hr : Blk w2 w1.heap.size [.slice none 0 0, .slice none 0 0] _ := hr
  have e12 := e1.trans e2
  have s1 := e1.size_le
  have s2 := e2.size_le
  refine goS ?_
  refine W_held0 [w1.heap.size] [(2, .pointer (some ⟨w1.heap.size, 0, none⟩))] (fun w' => ∃ tv' bv' Fb, Blk w' w1.heap.size [tv', bv'] 26 ∧ w'.ownsRow w2.heap.size 3 1 tv' tl.length (tl.map (.int .i64)) ∧ RowS 56 w' bv' l Fb ∧ (tv'.ownBlock.toList ++ Fb).Nodup ∧ (∀ b ∈ tv'.ownBlock.toList ++ Fb, w2.heap.size ≤ b) ∧ Chg [w1.heap.size] w2 w') (by kernel_rfl) (fun ws es hS => ?_) (fun w4 hR => ?_)
  · have hss := es.size_le
    first | refine Z82 1 rfl (by kernel_rfl) (by kernel_rfl) (by kernel_rfl) (by assumption) (fun w' hw' => Z56 rfl) ?_ | refine Z82 1 rfl (by kernel_rfl) (by kernel_rfl) (by kernel_rfl) (by assumption) (fun w' hw' => Z63 rfl rfl) ?_ | refine Z82 1 rfl (by kernel_rfl) (by kernel_rfl) (by kernel_rfl) (by assumption) (fun w' hw' => Z64 rfl rfl) ?_ | refine Z82 1 rfl (by kernel_rfl) (by kernel_rfl) (by kernel_rfl) (by assumption) (fun w' hw' => Z75 rfl rfl (by omega)) ?_ | refine Z82 1 rfl (by kernel_rfl) (by kernel_rfl) (by kernel_rfl) (by assumption) (fun w' hw' => Z72 rfl) ?_ | refine Z82 1 rfl (by kernel_rfl) (by kernel_rfl) (by kernel_rfl) (by assumption) (fun w' hw' => Z69 rfl rfl rfl (by omega)) ?_ | refine Z82 1 rfl (by kernel_rfl) (by kernel_rfl) (by kernel_rfl) (by assumption) (fun w' hw' => Z30 rfl (by rfl) (by simp only [Z84, List.set_cons_zero, List.set_cons_succ]; rfl)) ?_
    refine Z82 2 rfl (by kernel_rfl) (by kernel_rfl) (by kernel_rfl) (by assumption) (fun w' hw' => Z66 rfl ((hs.ext es).chg hw' (by simp; omega)) rfl) ?_
    first | refine Z82 4 rfl (by kernel_rfl) (by kernel_rfl) (by kernel_rfl) (by assumption) (fun w' hw' => Z56 rfl) ?_ | refine Z82 4 rfl (by kernel_rfl) (by kernel_rfl) (by kernel_rfl) (by assumption) (fun w' hw' => Z63 rfl rfl) ?_ | refine Z82 4 rfl (by kernel_rfl) (by kernel_rfl) (by kernel_rfl) (by assumption) (fun w' hw' => Z64 rfl rfl) ?_ | refine Z82 4 rfl (by kernel_rfl) (by kernel_rfl) (by kernel_rfl) (by assumption) (fun w' hw' => Z75 rfl rfl (by omega)) ?_ | refine Z82 4 rfl (by kernel_rfl) (by kernel_rfl) (by kernel_rfl) (by assumption) (fun w' hw' => Z72 rfl) ?_ | refine Z82 4 rfl (by kernel_rfl) (by kernel_rfl) (by kernel_rfl) (by assumption) (fun w' hw' => Z69 rfl rfl rfl (by omega)) ?_ | refine Z82 4 rfl (by kernel_rfl) (by kernel_rfl) (by kernel_rfl) (by assumption) (fun w' hw' => Z30 rfl (by rfl) (by simp only [Z84, List.set_cons_zero, List.set_cons_succ]; rfl)) ?_
    refine Z82 5 rfl (by kernel_rfl) (by kernel_rfl) (by kernel_rfl) (by assumption) (fun w' hw' => Z66 rfl ((hs.ext es).chg hw' (by simp; omega)) rfl) ?_
    refine WH_one 0 rfl (by kernel_rfl) (WO_build0 (e := 3) (k := 1) fun w0 hb0 e0 z0 => Z31 (at_held (e0.chg _) ?_))
    have hown0 := owns_empty (B := ws.heap.size) (k := 1) hb0 (Nat.le_refl _)
    refine WH_one 3 rfl (by kernel_rfl) (WO_appI (l0 := []) rfl hown0 rfl (ht.ext ((e12.trans es).trans e0)) e0.size (by simp; omega) (by decide) fun tv' wc hown1 hg hat => Z31 (at_held ((grown_below e0 hown0 hg (Nat.le_refl _)).chg _) ?_))
    have ec : Ext ws wc := grown_below e0 hown0 hg (Nat.le_refl _)
    rw [List.nil_append] at hown1
    have hb1 := hown1.lt
    have hone1 := row_one (ownsRow_base0 hown1)
    refine WX_call 6 rfl (by kernel_rfl) rfl (l1Copy_all l bv F wc (h.ext ((e12.trans es).trans ec)) hn2) ?_
    rintro bv' wd hg2
    obtain ⟨⟨G2, q2, n2, b2⟩, ed⟩ := hg2.new
    have ecd := ec.trans ed
    have hSd : Chg [w1.heap.size] ws wd := ecd.chg _
    refine ⟨hSd, ?_⟩
    have hone2 := q2.one
    have hsc := ec.size_le
    refine Z82 7 rfl (by kernel_rfl) (by kernel_rfl) (by kernel_rfl) (by assumption) (fun w' hw' => Z30 (cs := [tv', bv']) rfl (by simp [partsOk, hone1, hone2]) rfl) ?_
    refine WH_one 8 rfl (by kernel_rfl) (WO_storeS (k := 2) (vs := [tv', bv']) rfl rfl rfl (by simp; exact ⟨hone1, hone2⟩) ((hr.ext es).ext ecd) (by decide) fun wf hbf of => Z31 (at_held (hSd.trans of.chg) ?_))
    replace hbf : Blk wf w1.heap.size [tv', bv'] _ := hbf
    have hsw := es.size_le
    refine WH_done (by kernel_rfl) (by repeat (first | exact True.intro | refine And.intro rfl ?_)) ⟨tv', bv', G2, hbf, ?_, q2.chg of.chg (fun z hz hm => by simp at hm; subst hm; have := b2 _ hz; omega), List.nodup_append.2 ⟨nodup_own _, n2, fun a ha b hb e => by subst e; have := (hb1 a (by simpa using ha)).2; have := b2 a hb; omega⟩, fun b hb => ?_, (es.chg _).trans (hSd.trans of.chg)⟩
    · have hx := ownsRow_chg (ownsRow_ext hown1 ed) of.chg (fun z hz hm => by simp at hm; subst hm; have := (hb1 _ (by simpa using hz)).1; omega)
      exact ⟨by simpa using hx.1, by
        rcases hx.2 with h | ⟨gg, cap, cur, h1, h2, h3⟩
        · exact .inl h
        · exact .inr ⟨gg, cap, cur, h1, by omega, h3⟩⟩
    · rcases List.mem_append.1 hb with hb | hb
      · have := (hb1 b (by simpa using hb)).1; omega
      · have := b2 b hb; omega
  · obtain ⟨tv', bv', Fb, hb4, q1, q2, nd, bd, c4⟩ := hR
    refine goS ?_
    exact at_retC rfl rfl hb4 rfl ⟨tv', bv', Fb, rfl, ⟨q1.1, by
      rcases q1.2 with h | ⟨gg, cap, cur, h1, h2, h3⟩
      · exact .inl h
      · exact .inr ⟨gg, cap, cur, h1, by omega, h3⟩⟩, q2, nd, fun b hb => by have := bd b hb; omega, c4.ext_of e12 (by simp; omega)⟩
end Go.Proofs.YtplcmbipeanjdaaDoor
