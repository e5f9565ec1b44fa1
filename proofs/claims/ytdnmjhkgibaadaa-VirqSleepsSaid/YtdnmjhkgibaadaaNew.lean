/- A new machine of the reference, with wfi at address 0: contracts. -/
import Derived.Test.YtdnmjhkgibaadaaStep
import Derived.Laws.CopyOwn
namespace Go.Proofs.Ytdnmjhkgibaadaa
open Go.RowKit
attribute [local go_sem ↓] Go.wp_at_zero Go.wp_at_succ

def zs8 (n : Nat) : List Value := List.replicate n (.int .u8 0)
theorem zs8_len (n : Nat) : (zs8 n).length = n := List.length_replicate
/-- make([]byte, n): a block of zeros. -/
theorem wpList_make_bytes {P : Program} (w : World) {ops : Array Oper} {rest : List Oper} {o : Oper} {a : Act} {Q : Exit → Act → World → Prop}
    (hg : o.guard = none) (l c : Operand) (t : TypeId) (hop : o.op = Op.makeSlice t l c)
    (e : TypeId) (i : TypeInfo) (h1 : P.underlying t = some (.slice e)) (h2 : P.info? e = some i) (h3 : i.zero = some (.int .u8 0)) (h4 : i.size = 1) (h5 : i.bytes = 1)
    (n : Nat) (L : Int) (hl : a.eval l = .int .i64 L) (hc : a.eval c = .int .i64 L) (hL : L = (n : Int)) (hn : n ≤ 100000)
    (hK : ∀ w', Hid (w'.heap[w.heap.size]? = some (.cells (zs8 n).toArray e (0, 0))) → Hid (w.grownBy w' none) → wpList P ops Q rest (a.put o.dst (.slice (some ⟨w.heap.size, 0, none⟩) n n)) w') :
    wpList P ops Q (o :: rest) a w := by
  refine wpList_make_full w hg l c t hop w.heap.size e i (.int .u8 0) 1 h1 h2 h3 h4 .i64 .i64 L L n hl hc hL hL (by rw [h5]; omega) (by unfold maxLen; omega) (Nat.le_refl _) ?_
  intro w' hown hgr
  refine hK w' ?_ hgr
  obtain ⟨hlen, h⟩ := hown
  rcases h with ⟨h, _⟩ | ⟨g, cap, cur, hv, _, hh, _, _, hs, ht⟩
  · cases h
  · injection hv with e1 e2 e3
    injection e1 with e1
    injection e1 with e1 _
    subst e1 e3
    show _ = _
    rw [hh]
    have hcur : cur.toList = zs8 n := by
      have : cur.toList.take (n * 1) = cur.toList := List.take_of_length_le (by simp; omega)
      rw [this] at ht
      rw [ht]
      apply List.ext_getElem?
      intro j
      rw [Nat.mul_one]
      by_cases hj : j < n
      · simp [zs8, hj, madeCells, Value.cells, Nat.mod_one]
      · simp [zs8, hj, madeCells, Value.cells]
    rw [← hcur]
/-- Only block g has turned. -/
def OnlyBlk (w w' : World) (g : Nat) : Prop := w'.os = w.os ∧ w'.tape = w.tape ∧ w'.output = w.output ∧ w'.heap.size = w.heap.size ∧ ∀ k, k ≠ g → w'.heap[k]? = w.heap[k]?
theorem OnlyBlk.below {w w' : World} {g B : Nat} (h : OnlyBlk w w' g) (hB : B ≤ g) : Below B w w' := ⟨h.1, h.2.1, h.2.2.1, Nat.le_of_eq h.2.2.2.1.symm, fun k hk => h.2.2.2.2 k (by omega)⟩
theorem OnlyBlk.cell {w w' : World} {g : Nat} (h : OnlyBlk w w' g) {a : Addr} {v : Value} (ha : a.block ≠ g) (hv : w.cell? a = some v) : w'.cell? a = some v := (World.cell?_of_block (w := w) (h.2.2.2.2 _ ha)).trans hv
theorem step_copy_keep {P : Program} {ops : Array Oper} {o : Oper} {a : Act} {w : World} {K : Act → World → Prop} {Q : Exit → Act → World → Prop} {E : Prop} (hgd : o.guard = none) (d s : Operand) (dT sT : TypeId)
    (ho : o.op = .call { callee := .builtin .copy, args := #[d, s], argTypes := #[dT, sT] }) (elem : TypeId) (hu : P.underlying dT = some (.slice elem)) (hsz : (P.info? elem).map (·.size) = some 1)
    (g off dLen dCap : Nat) (ad : Addr) (sLen sCap : Nat) (hd : a.eval d = .slice (some ⟨g, off, none⟩) dLen dCap) (hs : a.eval s = .slice (some ad) sLen sCap)
    (cur : List Value) (t : TypeId) (hg : w.heap[g]? = some (.cells cur.toArray t (0, 0))) (cs : List Value) (hn : cs.length = Nat.min sLen dLen)
    (hsrc : ∀ j v, cs[j]? = some v → w.cell? (ad.add j) = some v) (hfit : off + cs.length ≤ cur.length) (h1 : ∀ v ∈ cs, v.oneCell' = true)
    (h : ∀ w', Hid (w'.heap[g]? = some (.cells (splice cur off cs).toArray t (0, 0))) → Hid (OnlyBlk w w' g) → K (a.put o.dst (goInt cs.length)) w') :
    if Region.wanted o (yielded ops a.tmps) = true then Oper.wp P o a w K Q else E := by
  have hw : Region.wanted o (yielded ops a.tmps) = true := by simp [Region.wanted, hgd]
  rw [if_pos hw]
  have hrun := run_copy_row (P := P) w dT sT o.type elem g off dLen dCap ad sLen sCap cur.toArray t cs hu hsz hg hn hsrc (by simpa using hfit) h1
  unfold Oper.wp
  simp [execOp, ho, resolve, invoke, builtin, hd, hs, hrun, Result.andThen]
  exact h _ (show _ = _ by simpa [splice] using setRow_heap w g _ _ t _ hg) ⟨rfl, rfl, rfl, by simp, fun k hk => setRow_other w g k _ hk⟩
/-- What NewMemory(1) hands back. -/
def NmP (w : World) (e : Ending) (w' : World) : Prop := ∃ pm pb, e = .returned (.pointer (some ⟨pm, 0, none⟩)) ∧ w.heap.size ≤ pb ∧ pb < pm ∧ w'.heap[pb]? = some (.cells (zs8 4096).toArray 5 (0, 0)) ∧ w'.cell? ⟨pm, 0, none⟩ = some (.slice (some ⟨pb, 0, none⟩) 4096 4096) ∧ Below w.heap.size w w'
set_option maxRecDepth 100000 in
theorem newMem1 (w : World) : Calls Try.prog 27 #[.int .i64 1] w (NmP w) := by
  obtain ⟨i8, hi, hz0, hz1, hz2⟩ := info_parts Try.infoM8
  have Ji := Lib.hid hi
  have Jz0 := Lib.hid hz0
  have Jz1 := Lib.hid hz1
  have Jz2 := Lib.hid hz2
  clear hi hz0 hz1 hz2
  go_enter Try.func27, Try.ntmps27
  go_wp2_with (at_make; go_must (refine wpList_make_bytes _ rfl (.tmp 8) (.tmp 8) 25 rfl 5 i8 Try.underlying25 Ji.out Jz0.out Jz1.out Jz2.out 4096 4096 rfl rfl rfl (by omega) ?_; intro w1 HR HG; have HB := Lib.hid ((Below.refl w.heap.size w).grown HG.out (Nat.le_refl _) (by simp)); clear HG))
  go_ret
  have hlt : w.heap.size < w1.heap.size := by
    rcases Nat.lt_or_ge w.heap.size w1.heap.size with h | h
    · exact h
    · have := HR.out; rw [Array.getElem?_eq_none h] at this; cases this
  exact ⟨_, _, rfl, Nat.le_refl _, hlt, (Below.heap_alloc _ _ _ hlt).trans HR.out, by simp, HB.out.alloc HB.out.size _⟩
end Go.Proofs.Ytdnmjhkgibaadaa
