/-
  What is proved here: the texts of memories of cells that the program and the reference write.
-/
import Derived.Lib.SmallJoins
import Derived.Test.YtnfapbghkmodeaaDoorBld
import Derived.Test.YtnfapbghkmodeaaDoorCVal
import Derived.Test.YtnfapbghkmodeaaDoorStr
import Derived.Test.YtnfapbghkmodeaaDoorWx
namespace Go.Proofs.YtnfapbghkmodeaaDoor
set_option linter.unusedVariables false
set_option linter.unusedSimpArgs false
set_option linter.unnecessarySimpa false
open Go.RowKit

abbrev Tx := List UInt8
/-- The text of a number. -/
def decT (n : Int) : Tx := Lib.decDigits n.toNat
theorem dec_lt {u : Nat} (h : u < 10) : Lib.decDigits u = [UInt8.ofNat (48 + u)] := by unfold Lib.decDigits; rw [dif_pos h]
theorem dec_ge {u : Nat} (h : ¬ u < 10) : Lib.decDigits u = Lib.decDigits (u / 10) ++ [UInt8.ofNat (48 + u % 10)] := by rw [Lib.decDigits, dif_neg h]
theorem dec_len {u : Nat} (h : u < 1000) : (Lib.decDigits u).length ≤ 3 := by
  by_cases h1 : u < 10
  · rw [dec_lt h1]; simp
  · rw [dec_ge h1]
    by_cases h2 : u / 10 < 10
    · rw [dec_lt h2]; simp
    · rw [dec_ge h2, dec_lt (show u / 10 / 10 < 10 by omega)]; simp
def tagT (t : Tg) : Tx := 32 :: (decT t.id ++ if t.u then [117] else [])
def stT (l : List Tg) : Tx := l.flatMap tagT
def cellT (c : Ce) : Tx := decT c.val ++ (if c.al then [] else [33]) ++ stT c.st
def cellsT (l : List Ce) : Tx := l.flatMap fun c => cellT c ++ [10]
def fmtC (l : List Ce) : Tx := if cellsOk l then cellsT l else []
theorem stT_len {l : List Tg} (h : ∀ t ∈ l, 0 ≤ t.id ∧ t.id < 1000) : (stT l).length ≤ 5 * l.length := by
  induction l with
  | nil => simp [stT]
  | cons t r ih =>
    have h1 := ih fun x hx => h x (by simp [hx])
    have h2 := h t (by simp)
    have h3 := dec_len (u := t.id.toNat) (by omega)
    have h4 : (tagT t).length ≤ 5 := by unfold tagT decT; split <;> simp <;> omega
    unfold stT at h1 ⊢
    rw [List.flatMap_cons, List.length_append]
    simp only [List.length_cons]
    omega
theorem cellT_len {c : Ce} (h : cellOk c) : (cellT c).length ≤ 1010 := by
  obtain ⟨h1, h2, h3, _, h5, _⟩ := h
  have a := stT_len (l := c.st) fun t ht => by have := h5 t ht; omega
  have b := dec_len (u := c.val.toNat) (by omega)
  unfold cellT decT
  split <;> simp <;> omega
theorem cellsT_len {l : List Ce} (h : ∀ c ∈ l, cellOk c) : (cellsT l).length ≤ 1011 * l.length := by
  induction l with
  | nil => simp [cellsT]
  | cons c r ih =>
    have h1 := ih fun x hx => h x (by simp [hx])
    have h2 := cellT_len (h c (by simp))
    unfold cellsT at h1 ⊢
    rw [List.flatMap_cons, List.length_append]
    simp only [List.length_cons, List.length_append, List.length_nil]
    omega
theorem stT_take {l : List Tg} {i : Nat} (h : i < l.length) : stT (l.take (i + 1)) = stT (l.take i) ++ tagT l[i] := by
  unfold stT
  rw [List.take_succ_eq_append_getElem h, List.flatMap_append]
  simp
theorem cellsT_take {l : List Ce} {i : Nat} (h : i < l.length) : cellsT (l.take (i + 1)) = cellsT (l.take i) ++ (cellT l[i] ++ [10]) := by
  unfold cellsT
  rw [List.take_succ_eq_append_getElem h, List.flatMap_append]
  simp
/-- The table of powers of ten is as the program's text lays it. -/
def TabW (w : World) : Prop := Lib.TabIs Tryd.prog w "internal/strconv.uint64pow10" .u64 Lib.pow10Tab
theorem tab_ext {w w' : World} (h : TabW w) (e : Ext w w') : TabW w' := by
  cases hg : Tryd.prog.globalNamed "internal/strconv.uint64pow10" with
  | none =>
    unfold TabW Lib.TabIs World.var? at h
    rw [hg] at h
    cases h
  | some g => exact Go.Joins.tab_stays hg h e (Nat.le_refl _)
theorem itoaN_ret (n : Int) (w : World) (hn : 0 ≤ n ∧ n < 1000) (ht : TabW w) : Ret Tryd.prog 20 [.int .i64 n] w fun r w' => r = sV (decT n) ∧ Ext w w' := by
  refine Calls.mono (Tryd.strconv_Itoa n (by omega) (by omega) w ht) fun e w' h => ⟨_, h.1, ?_, ?_⟩
  · have : Lib.itoa n = decT n := by unfold Lib.itoa decT; rw [if_neg (by omega)]
    rw [this]
  · obtain ⟨k, os, rfl⟩ := h.2
    exact ⟨rfl, rfl, rfl, by show w.heap.size ≤ (w.heap ++ os).size; rw [Array.size_append]; omega, fun i hi => by show (w.heap ++ os)[i]? = w.heap[i]?; rw [Array.getElem?_append_left hi]⟩
/-! ### The builder -/
def BldX (w : World) (b : Nat) (l : Tx) : Prop := Lib.IsBuilderF 47 5 b b (Lib.byteCells l) w
theorem BldX.lt {w : World} {b : Nat} {l : Tx} (h : BldX w b l) : b < w.heap.size := by
  rcases h with ⟨_, v, hb, _⟩ | ⟨_, v, hb, _⟩
  · exact (Array.getElem?_eq_some_iff.1 hb).1
  · exact (Array.getElem?_eq_some_iff.1 hb).1
theorem rowF_ext {w w' : World} {B n : Nat} {e : TypeId} {k : Nat} {v : Value} {xs : List Value} (h : w.ownsRowF B e k v n xs) (he : Ext w w') : w'.ownsRowF B e k v n xs := by
  obtain ⟨hl, h | ⟨g, cap, cur, fz, h1, h2, h3, h4⟩⟩ := h
  · exact ⟨hl, .inl h⟩
  · have hg := (Array.getElem?_eq_some_iff.1 h3).1
    exact ⟨hl, .inr ⟨g, cap, cur, fz, h1, h2, by rw [he.block g hg]; exact h3, h4⟩⟩
theorem BldX.ext {w w' : World} {b : Nat} {l : Tx} (h : BldX w b l) (e : Ext w w') : BldX w' b l := by
  have hl := h.lt
  rcases h with ⟨hB, v, hb, ho, hn⟩ | ⟨hB, v, hb, ho, hn⟩
  · exact .inl ⟨hB, v, by rw [e.block b hl]; exact hb, rowF_ext ho e, hn⟩
  · exact .inr ⟨hB, v, by rw [e.block b hl]; exact hb, rowF_ext ho e, hn⟩
theorem BldX.new {w : World} {b : Nat} (h : Blk w b [.pointer none, .slice none 0 0] 47) : BldX w b [] :=
  .inl ⟨Nat.le_refl _, .slice none 0 0, h, ⟨rfl, .inl ⟨rfl, rfl⟩⟩, by simp [Value.ownBlock]⟩
/-- Another block than the builder's and its bytes. -/
theorem blk_kept {w w' : World} {b k : Nat} {cs : List Value} {t : TypeId} (h : Blk w k cs t) (ko : Lib.OthersKept 5 (some b) w w') (hk : k ≠ b) (ht : t ≠ 5) : Blk w' k cs t :=
  ko k _ h (fun e => hk (Option.some.inj e)) (fun c fz e => by injection e with _ e2 _; exact ht e2)
theorem ext_below {w w1 w2 : World} {b : Nat} (e : Ext w w1) (k : Below b w1 w2) (hb : w.heap.size ≤ b) : Ext w w2 :=
  ⟨k.os.trans e.os, k.tape.trans e.tape, k.output.trans e.output, Nat.le_trans e.size k.size, fun i hi => (k.block i (by omega)).trans (e.block i hi)⟩
theorem write_ret (b : Nat) (l s : Tx) (w0 w : World) (h : BldX w b l) (e : Ext w0 w) (hb : w0.heap.size ≤ b) (hl : l.length ≤ 1000000) (hs : s.length ≤ 1000000) :
    Ret Tryd.prog 19 [.pointer (some ⟨b, 0, none⟩), sV s] w fun r w' => (∃ x y, r = .tuple #[x, y]) ∧ BldX w' b (l ++ s) ∧ Ext w0 w' ∧ Lib.OthersKept 5 (some b) w w' ∧ w.heap.size ≤ w'.heap.size := by
  have hlt := h.lt
  refine Calls.mono (Tryd.bldWrite b b (Lib.byteCells l) ⟨s.toArray⟩ w h ?_ (Nat.le_of_lt hlt)) fun e' w' h => ⟨_, h.1, ⟨_, _, rfl⟩, .inr ?_, ext_below e h.2.2.1 hb, h.2.2.2, h.2.2.1.size⟩
  · rw [Lib.byteCells_length, ba_size]
    omega
  · have := h.2.1
    rw [Lib.strCells_eq, ← Lib.byteCells_append] at this
    simpa using this
theorem string_ret (b : Nat) (l : Tx) (w0 w : World) (h : BldX w b l) (e : Ext w0 w) (hb : w0.heap.size ≤ b) : Ret Tryd.prog 21 [.pointer (some ⟨b, 0, none⟩)] w fun r w' => r = sV l ∧ Ext w0 w' := by
  have hlt := h.lt
  exact Calls.mono (Tryd.bldString b b l w h (Nat.le_of_lt hlt)) fun e' w' h => ⟨_, h.1, rfl, ext_below e h.2.2.1 hb⟩
/-! ### The reference's numbers -/
theorem l17Dec_ret (n : Nat) (w : World) (hn : n < 1000) : Ret Tryd.prog 27 [.int .i64 (n : Int)] w fun r w' => r = sV (decT n) ∧ Ext w w' := by
  have hlen := dec_len hn
  refine enter Tryd.func27 rfl Tryd.ntmps27 rfl rfl ?_
  refine goT ?_
  rw [decide_eq_false (show ¬ (n : Int) < -9223372036854775807 by omega)]
  refine goT ?_
  rw [decide_eq_false (show ¬ (n : Int) < 0 by omega)]
  refine goT ?_
  refine W_loop (α := Nat × Tx) (fun p => [(0, .int .i64 (p.1 : Int)), (3, sV p.2)]) (fun p w' => (p.1 < 1000 ∧ Lib.decDigits p.1 ++ p.2 = Lib.decDigits n) ∧ Ext w w') (fun p => p.1) (n, []) (by repeat (first | exact True.intro | refine And.intro rfl ?_)) ⟨⟨hn, by simp⟩, Ext.refl _⟩ ?_
  rintro ⟨k, o⟩ w1 ⟨⟨hk, hko⟩, e1⟩
  simp only at hk hko
  have hol : (Lib.decDigits k).length + o.length = (Lib.decDigits n).length := by rw [← hko, List.length_append]
  refine goT ?_
  by_cases h9 : k < 10
  · rw [decide_eq_false (show ¬ (k : Int) > 9 by omega)]
    refine goT ?_
    have hd : (UInt8.ofNat (48 + k)).toNat = 48 + k := by rw [UInt8.toNat_ofNat']; omega
    refine Z13 (q_toByte rfl (by omega)) ?_
    refine WO_byteStr (e := 5) (b := UInt8.ofNat (48 + k)) rfl (by rw [hd]; omega) fun w2 e2 z2 => ?_
    refine goT ?_
    refine at_ret1 rfl rfl ⟨?_, e1.trans e2⟩
    unfold decT
    rw [Int.toNat_natCast, ← hko, dec_lt h9]
  · rw [decide_eq_true (show (k : Int) > 9 by omega)]
    rw [dec_ge h9] at hko hol
    refine goT ?_
    rw [show (k : Int) % 10 = ((k % 10 : Nat) : Int) from by omega]
    have hd : (UInt8.ofNat (48 + k % 10)).toNat = 48 + k % 10 := by rw [UInt8.toNat_ofNat']; omega
    refine Z13 (q_toByte rfl (by omega)) ?_
    refine WO_byteStr (e := 5) (b := UInt8.ofNat (48 + k % 10)) rfl (by rw [hd]; omega) fun w2 e2 z2 => ?_
    refine goT ?_
    rw [show (k : Int) / 10 = ((k / 10 : Nat) : Int) from by omega]
    refine goT ?_
    exact at_loop (k / 10, UInt8.ofNat (48 + k % 10) :: o) (by repeat (first | exact True.intro | refine And.intro rfl ?_)) ⟨⟨by simp only; omega, by simp only; rw [← hko]; simp⟩, e1.trans e2⟩ (by simp only; omega)
end Go.Proofs.YtnfapbghkmodeaaDoor
