/- The reference's machine that stands at wfi: what a step makes of it. -/
import Derived.Test.YtdnmjhkgibaadaaMac66
namespace Go.Proofs.Ytdnmjhkgibaadaa
open Go.RowKit
attribute [local go_sem ↓] Go.wp_at_zero Go.wp_at_succ

/-- A machine (its cells in block bm) with wfi at address 0, no messages, nothing waiting. -/
def MP (w : World) (bm pm pb : Nat) (pc st tm cp pd ie : Int) : Prop := ∃ g : Nat → Value, Blk w bm 38 39 g ∧ (g 0 = .int .i64 0 ∧ g 16 = .int .i64 pc ∧ g 17 = .int .i64 st ∧ g 18 = .int .i64 64 ∧ g 23 = .int .i64 0 ∧ g 24 = .int .i64 tm ∧ g 25 = .int .i64 cp ∧ g 26 = .int .i64 pd ∧ g 27 = .int .i64 ie ∧ g 28 = .pointer (some ⟨pm, 0, none⟩) ∧ g 29 = .slice none 0 0 ∧ g 31 = .pointer none ∧ g 32 = .int .i64 0 ∧ g 33 = .pointer none ∧ g 34 = .bool false ∧ g 35 = .bool false) ∧ Mem66 w pm pb ∧ pm ≠ bm ∧ pb ≠ bm
section
variable {w w' : World} {bm pm pb : Nat} {pc st tm cp pd ie : Int}
theorem MP.cells (h : MP w bm pm pb pc st tm cp pd ie) : (w.cell? ⟨bm, 0, none⟩ = some (.int .i64 0) ∧ w.cell? ⟨bm, 16, none⟩ = some (.int .i64 pc) ∧ w.cell? ⟨bm, 17, none⟩ = some (.int .i64 st) ∧ w.cell? ⟨bm, 18, none⟩ = some (.int .i64 64) ∧ w.cell? ⟨bm, 23, none⟩ = some (.int .i64 0) ∧ w.cell? ⟨bm, 24, none⟩ = some (.int .i64 tm) ∧ w.cell? ⟨bm, 25, none⟩ = some (.int .i64 cp) ∧ w.cell? ⟨bm, 26, none⟩ = some (.int .i64 pd) ∧ w.cell? ⟨bm, 27, none⟩ = some (.int .i64 ie) ∧ w.cell? ⟨bm, 28, none⟩ = some (.pointer (some ⟨pm, 0, none⟩)) ∧ w.cell? ⟨bm, 29, none⟩ = some (.slice none 0 0) ∧ w.cell? ⟨bm, 31, none⟩ = some (.pointer none) ∧ w.cell? ⟨bm, 32, none⟩ = some (.int .i64 0) ∧ w.cell? ⟨bm, 33, none⟩ = some (.pointer none) ∧ w.cell? ⟨bm, 34, none⟩ = some (.bool false) ∧ w.cell? ⟨bm, 35, none⟩ = some (.bool false)) ∧ (∀ k, w.frozen? ⟨bm, k, none⟩ = false) ∧ bm < w.heap.size ∧ Mem66 w pm pb ∧ pm ≠ bm ∧ pb ≠ bm := by
  obtain ⟨g, hB, ⟨h0, h16, h17, h18, h23, h24, h25, h26, h27, h28, h29, h31, h32, h33, h34, h35⟩, hm, n1, n2⟩ := h
  have hc : ∀ k v, k < 39 → g k = v → w.cell? ⟨bm, k, none⟩ = some v := fun k v hk hv => by rw [hB.cell hk, hv]
  exact ⟨⟨hc _ _ (by omega) h0, hc _ _ (by omega) h16, hc _ _ (by omega) h17, hc _ _ (by omega) h18, hc _ _ (by omega) h23, hc _ _ (by omega) h24, hc _ _ (by omega) h25, hc _ _ (by omega) h26, hc _ _ (by omega) h27, hc _ _ (by omega) h28, hc _ _ (by omega) h29, hc _ _ (by omega) h31, hc _ _ (by omega) h32, hc _ _ (by omega) h33, hc _ _ (by omega) h34, hc _ _ (by omega) h35⟩, hB.frozen, hB.lt, hm, n1, n2⟩
theorem MP.below (h : MP w bm pm pb pc st tm cp pd ie) (hb : Below w.heap.size w w') : MP w' bm pm pb pc st tm cp pd ie := by
  obtain ⟨g, hB, hs, hm, n1, n2⟩ := h
  exact ⟨g, hB.below hb hB.lt, hs, hm.keep fun a u hu _ => cell_below hb a u hu, n1, n2⟩
theorem mem_set (hm : Mem66 w pm pb) (n1 : pm ≠ bm) (n2 : pb ≠ bm) (k : Nat) (v : Value) : Mem66 (w.setCell ⟨bm, k, none⟩ v) pm pb :=
  hm.keep fun a u hu ha => by
    rw [World.cell?_setCell_other _ _ _ _ (fun e => by
      have hb : bm = a.block := by rw [← e]
      rcases ha with h | h <;> omega)]
    exact hu
theorem MP.setPc (h : MP w bm pm pb pc st tm cp pd ie) (x : Int) : MP (w.setCell ⟨bm, 16, none⟩ (.int .i64 x)) bm pm pb x st tm cp pd ie := by
  obtain ⟨g, hB, ⟨h0, h16, h17, h18, h23, h24, h25, h26, h27, h28, h29, h31, h32, h33, h34, h35⟩, hm, n1, n2⟩ := h
  exact ⟨_, hB.put 16 _, ⟨h0, rfl, h17, h18, h23, h24, h25, h26, h27, h28, h29, h31, h32, h33, h34, h35⟩, mem_set hm n1 n2 _ _, n1, n2⟩
theorem MP.setTm (h : MP w bm pm pb pc st tm cp pd ie) (x : Int) : MP (w.setCell ⟨bm, 24, none⟩ (.int .i64 x)) bm pm pb pc st x cp pd ie := by
  obtain ⟨g, hB, ⟨h0, h16, h17, h18, h23, h24, h25, h26, h27, h28, h29, h31, h32, h33, h34, h35⟩, hm, n1, n2⟩ := h
  exact ⟨_, hB.put 24 _, ⟨h0, h16, h17, h18, h23, rfl, h25, h26, h27, h28, h29, h31, h32, h33, h34, h35⟩, mem_set hm n1 n2 _ _, n1, n2⟩
theorem MP.setPd (h : MP w bm pm pb pc st tm cp pd ie) (x : Int) : MP (w.setCell ⟨bm, 26, none⟩ (.int .i64 x)) bm pm pb pc st tm cp x ie := by
  obtain ⟨g, hB, ⟨h0, h16, h17, h18, h23, h24, h25, h26, h27, h28, h29, h31, h32, h33, h34, h35⟩, hm, n1, n2⟩ := h
  exact ⟨_, hB.put 26 _, ⟨h0, h16, h17, h18, h23, h24, h25, rfl, h27, h28, h29, h31, h32, h33, h34, h35⟩, mem_set hm n1 n2 _ _, n1, n2⟩
end
theorem mp_drew {w : World} {bm pm pb : Nat} {pc st tm cp pd ie : Int} (h : MP w bm pm pb pc st tm cp pd ie) : MP w.drew bm pm pb pc st tm cp pd ie := h
theorem keepP {X W w' : World} {bm : Nat} {a b c : Value} (hS : W.cell? ⟨bm, 24, none⟩ = some a ∧ W.cell? ⟨bm, 25, none⟩ = some b ∧ W.cell? ⟨bm, 29, none⟩ = some c ∧ Below X.heap.size X W) (hb : Below W.heap.size W w') : w'.cell? ⟨bm, 24, none⟩ = some a ∧ w'.cell? ⟨bm, 25, none⟩ = some b ∧ w'.cell? ⟨bm, 29, none⟩ = some c ∧ Below X.heap.size X w' :=
  ⟨cell_below hb _ _ hS.1, cell_below hb _ _ hS.2.1, cell_below hb _ _ hS.2.2.1, hS.2.2.2.trans (hb.mono hS.2.2.2.size)⟩
theorem linkMsgs (w : World) : Calls Try.prog 50 #[.agg #[.pointer none, .int .i64 0, .pointer none]] w fun e w' => e = .returned (.int .i64 0) ∧ Below w.heap.size w w' := by
  go_enter Try.func50, Try.ntmps50
  go_wp2_with fail
  go_ret
  exact ⟨rfl, (Below.refl _ _).alloc (Nat.le_refl _) _⟩
theorem msgs_any (w : World) (bm pm pb : Nat) (pc st tm cp pd ie : Int) (h : MP w bm pm pb pc st tm cp pd ie) : Calls Try.prog 34 #[.pointer (some ⟨bm, 0, none⟩)] w fun e w' => e = .returned (.int .i64 0) ∧ Below w.heap.size w w' := by
  obtain ⟨⟨h0, h16, h17, h18, h23, h24, h25, h26, h27, h28, h29, h31, h32, h33, h34, h35⟩, _⟩ := h.cells
  clear h
  go_enter Try.func34, Try.ntmps34
  go_wp2_with fail
  refine (linkMsgs _).mono ?_
  rintro e w1 ⟨rfl, hb⟩
  have HB := Lib.hid hb
  clear hb
  go_wp2_with fail
  go_ret
  exact ⟨rfl, HB.out⟩
set_option maxHeartbeats 2000000 in
theorem mpend_any (w : World) (bm pm pb : Nat) (pc st tm cp pd ie : Int) (h : MP w bm pm pb pc st tm cp pd ie) : Calls Try.prog 25 #[.pointer (some ⟨bm, 0, none⟩)] w fun e w' => e = .returned (.int .i64 (pendI tm cp 0 0)) ∧ Below w.heap.size w w' := by
  have H := Lib.hid h
  obtain ⟨⟨h0, h16, h17, h18, h23, h24, h25, h26, h27, h28, h29, h31, h32, h33, h34, h35⟩, _⟩ := h.cells
  have HC := Lib.hid (show w.drew.cell? ⟨bm, 24, none⟩ = some (.int .i64 tm) ∧ w.drew.cell? ⟨bm, 25, none⟩ = some (.int .i64 cp) ∧ w.drew.cell? ⟨bm, 29, none⟩ = some (.slice none 0 0) ∧ Below w.heap.size w w.drew from ⟨h24, h25, h29, (Below.refl _ _).drew⟩)
  clear h h0 h16 h17 h18 h23 h24 h25 h26 h27 h28 h29 h31 h32 h33 h34 h35
  go_enter Try.func25, Try.ntmps25
  go_wp2_with fail
  go_region_held3 (fun w' => w'.cell? ⟨bm, 24, none⟩ = some (.int .i64 tm) ∧ w'.cell? ⟨bm, 25, none⟩ = some (.int .i64 cp) ∧ w'.cell? ⟨bm, 29, none⟩ = some (.slice none 0 0) ∧ Below w.heap.size w w') (first | (with_reducible exact HC.out) | (with_reducible assumption) | (with_reducible exact keepP (by assumption) (by assumption)))
    (first
      | (go_at_call 34; go_must (refine (msgs_any _ bm pm pb pc st tm cp pd ie (by exact mp_drew H.out)).mono ?_; rintro e w1 ⟨rfl, hb1⟩))
      | (go_at_call 17; go_must (refine (refPending_any _ _ _ _ _).mono ?_; rintro e w' ⟨rfl, rfl⟩)))
  have HB := Lib.hid (show Below w.heap.size w w1 from ‹_ ∧ _ ∧ _ ∧ Below w.heap.size w w1›.2.2.2)
  go_wp2_with fail
  go_ret
  exact ⟨rfl, HB.out⟩
end Go.Proofs.Ytdnmjhkgibaadaa
