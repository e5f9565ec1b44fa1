/- What trunnionref1.keep makes of a state: the same in memory of its own, with all control registers. -/
import Derived.Test.YtodkenbkogfefaaApp
import Derived.Test.YtodkenbkogfefaaSame
import Derived.Deep.RegionHeld3
import Derived.Deep.LoopGhost
import Derived.Deep.DeepCutAuto
import Derived.Deep.DrawnRows
namespace Go.Proofs.Ytodkenbkogfefaa
open Go.RowKit
attribute [local go_sem ↓] Go.wp_at_zero Go.wp_at_succ

theorem Try.infoK64 : (Try.prog.info? 3).map (fun i => (i.zero, i.size, i.bytes)) = some (some (.int .i64 0), 1, 8) := by kernel_rfl
theorem Try.infoK8 : (Try.prog.info? 5).map (fun i => (i.zero, i.size, i.bytes)) = some (some (.int .u8 0), 1, 1) := by kernel_rfl
theorem below_ud {B : Nat} {w w' : World} (h : Below B w.drew w') : Below B w w' := ⟨h.os, h.tape, h.output, h.size, h.block⟩
section
variable {W0 W w' : World} {B : Nat} {v0 v1 v2 v3 v4 v5 : Value}
theorem keepK (hS : W.cell? ⟨B, 0, none⟩ = some v0 ∧ W.cell? ⟨B, 1, none⟩ = some v1 ∧ W.cell? ⟨B, 2, none⟩ = some v2 ∧ W.cell? ⟨B, 3, none⟩ = some v3 ∧ W.cell? ⟨B, 4, none⟩ = some v4 ∧ W.cell? ⟨B, 5, none⟩ = some v5 ∧ Below W0.heap.size W0 W) (hb : Below W.heap.size W w') : w'.cell? ⟨B, 0, none⟩ = some v0 ∧ w'.cell? ⟨B, 1, none⟩ = some v1 ∧ w'.cell? ⟨B, 2, none⟩ = some v2 ∧ w'.cell? ⟨B, 3, none⟩ = some v3 ∧ w'.cell? ⟨B, 4, none⟩ = some v4 ∧ w'.cell? ⟨B, 5, none⟩ = some v5 ∧ Below W0.heap.size W0 w' := by
  obtain ⟨h0, h1, h2, h3, h4, h5, h6⟩ := hS
  have hc := cell_below hb
  exact ⟨hc _ _ h0, hc _ _ h1, hc _ _ h2, hc _ _ h3, hc _ _ h4, hc _ _ h5, h6.trans (hb.mono h6.size)⟩
theorem keepKA (hS : W.cell? ⟨B, 0, none⟩ = some v0 ∧ W.cell? ⟨B, 1, none⟩ = some v1 ∧ W.cell? ⟨B, 2, none⟩ = some v2 ∧ W.cell? ⟨B, 3, none⟩ = some v3 ∧ W.cell? ⟨B, 4, none⟩ = some v4 ∧ W.cell? ⟨B, 5, none⟩ = some v5 ∧ Below W0.heap.size W0 W) (o : Obj) : (W.alloc o).cell? ⟨B, 0, none⟩ = some v0 ∧ (W.alloc o).cell? ⟨B, 1, none⟩ = some v1 ∧ (W.alloc o).cell? ⟨B, 2, none⟩ = some v2 ∧ (W.alloc o).cell? ⟨B, 3, none⟩ = some v3 ∧ (W.alloc o).cell? ⟨B, 4, none⟩ = some v4 ∧ (W.alloc o).cell? ⟨B, 5, none⟩ = some v5 ∧ Below W0.heap.size W0 (W.alloc o) := by
  obtain ⟨h0, h1, h2, h3, h4, h5, h6⟩ := hS
  have hc := cell_alloc W o
  exact ⟨hc _ _ h0, hc _ _ h1, hc _ _ h2, hc _ _ h3, hc _ _ h4, hc _ _ h5, h6.alloc h6.size o⟩
theorem keepKD (hS : W.drew.cell? ⟨B, 0, none⟩ = some v0 ∧ W.drew.cell? ⟨B, 1, none⟩ = some v1 ∧ W.drew.cell? ⟨B, 2, none⟩ = some v2 ∧ W.drew.cell? ⟨B, 3, none⟩ = some v3 ∧ W.drew.cell? ⟨B, 4, none⟩ = some v4 ∧ W.drew.cell? ⟨B, 5, none⟩ = some v5 ∧ Below W0.heap.size W0 W.drew) (o : Obj) : (W.alloc o).drew.cell? ⟨B, 0, none⟩ = some v0 ∧ (W.alloc o).drew.cell? ⟨B, 1, none⟩ = some v1 ∧ (W.alloc o).drew.cell? ⟨B, 2, none⟩ = some v2 ∧ (W.alloc o).drew.cell? ⟨B, 3, none⟩ = some v3 ∧ (W.alloc o).drew.cell? ⟨B, 4, none⟩ = some v4 ∧ (W.alloc o).drew.cell? ⟨B, 5, none⟩ = some v5 ∧ Below W0.heap.size W0 (W.alloc o).drew := by
  obtain ⟨h0, h1, h2, h3, h4, h5, h6⟩ := hS
  have hc := cell_alloc W o
  exact ⟨hc _ _ h0, hc _ _ h1, hc _ _ h2, hc _ _ h3, hc _ _ h4, hc _ _ h5, ⟨h6.os, h6.tape, h6.output, Nat.le_trans h6.size (by simp), fun k hk => (Below.heap_alloc W o k (Nat.lt_of_lt_of_le hk h6.size)).trans (h6.block k hk)⟩⟩
theorem keepKS (hS : W.cell? ⟨B, 0, none⟩ = some v0 ∧ W.cell? ⟨B, 1, none⟩ = some v1 ∧ W.cell? ⟨B, 2, none⟩ = some v2 ∧ W.cell? ⟨B, 3, none⟩ = some v3 ∧ W.cell? ⟨B, 4, none⟩ = some v4 ∧ W.cell? ⟨B, 5, none⟩ = some v5 ∧ Below W0.heap.size W0 W) (p : Nat) (u0 u1 u2 u3 u4 u5 : Value) (hp : p ≠ B) (hW : W0.heap.size ≤ p) : ((((((W.setCell ⟨p, 0, none⟩ u0).setCell ⟨p, 1, none⟩ u1).setCell ⟨p, 2, none⟩ u2).setCell ⟨p, 3, none⟩ u3).setCell ⟨p, 4, none⟩ u4).setCell ⟨p, 5, none⟩ u5).cell? ⟨B, 0, none⟩ = some v0 ∧ ((((((W.setCell ⟨p, 0, none⟩ u0).setCell ⟨p, 1, none⟩ u1).setCell ⟨p, 2, none⟩ u2).setCell ⟨p, 3, none⟩ u3).setCell ⟨p, 4, none⟩ u4).setCell ⟨p, 5, none⟩ u5).cell? ⟨B, 1, none⟩ = some v1 ∧ ((((((W.setCell ⟨p, 0, none⟩ u0).setCell ⟨p, 1, none⟩ u1).setCell ⟨p, 2, none⟩ u2).setCell ⟨p, 3, none⟩ u3).setCell ⟨p, 4, none⟩ u4).setCell ⟨p, 5, none⟩ u5).cell? ⟨B, 2, none⟩ = some v2 ∧ ((((((W.setCell ⟨p, 0, none⟩ u0).setCell ⟨p, 1, none⟩ u1).setCell ⟨p, 2, none⟩ u2).setCell ⟨p, 3, none⟩ u3).setCell ⟨p, 4, none⟩ u4).setCell ⟨p, 5, none⟩ u5).cell? ⟨B, 3, none⟩ = some v3 ∧ ((((((W.setCell ⟨p, 0, none⟩ u0).setCell ⟨p, 1, none⟩ u1).setCell ⟨p, 2, none⟩ u2).setCell ⟨p, 3, none⟩ u3).setCell ⟨p, 4, none⟩ u4).setCell ⟨p, 5, none⟩ u5).cell? ⟨B, 4, none⟩ = some v4 ∧ ((((((W.setCell ⟨p, 0, none⟩ u0).setCell ⟨p, 1, none⟩ u1).setCell ⟨p, 2, none⟩ u2).setCell ⟨p, 3, none⟩ u3).setCell ⟨p, 4, none⟩ u4).setCell ⟨p, 5, none⟩ u5).cell? ⟨B, 5, none⟩ = some v5 ∧ Below W0.heap.size W0 ((((((W.setCell ⟨p, 0, none⟩ u0).setCell ⟨p, 1, none⟩ u1).setCell ⟨p, 2, none⟩ u2).setCell ⟨p, 3, none⟩ u3).setCell ⟨p, 4, none⟩ u4).setCell ⟨p, 5, none⟩ u5) := by
  obtain ⟨h0, h1, h2, h3, h4, h5, h6⟩ := hS
  have far : ∀ (X : World) (k j : Nat) (u v : Value), X.cell? ⟨B, j, none⟩ = some v → (X.setCell ⟨p, k, none⟩ u).cell? ⟨B, j, none⟩ = some v := fun X k j u v h => by
    rw [World.cell?_setCell_other _ _ _ _ (by intro e; injection e; omega)]; exact h
  have all : ∀ (j : Nat) (v : Value), W.cell? ⟨B, j, none⟩ = some v → ((((((W.setCell ⟨p, 0, none⟩ u0).setCell ⟨p, 1, none⟩ u1).setCell ⟨p, 2, none⟩ u2).setCell ⟨p, 3, none⟩ u3).setCell ⟨p, 4, none⟩ u4).setCell ⟨p, 5, none⟩ u5).cell? ⟨B, j, none⟩ = some v := fun j v h => far _ _ _ _ _ (far _ _ _ _ _ (far _ _ _ _ _ (far _ _ _ _ _ (far _ _ _ _ _ (far _ _ _ _ _ h)))))
  exact ⟨all _ _ h0, all _ _ h1, all _ _ h2, all _ _ h3, all _ _ h4, all _ _ h5, ((((((h6.setCell (p := ⟨p, 0, none⟩) hW u0).setCell (p := ⟨p, 1, none⟩) hW u1).setCell (p := ⟨p, 2, none⟩) hW u2).setCell (p := ⟨p, 3, none⟩) hW u3).setCell (p := ⟨p, 4, none⟩) hW u4).setCell (p := ⟨p, 5, none⟩) hW u5)⟩
theorem pickK (hS : W.cell? ⟨B, 0, none⟩ = some v0 ∧ W.cell? ⟨B, 1, none⟩ = some v1 ∧ W.cell? ⟨B, 2, none⟩ = some v2 ∧ W.cell? ⟨B, 3, none⟩ = some v3 ∧ W.cell? ⟨B, 4, none⟩ = some v4 ∧ W.cell? ⟨B, 5, none⟩ = some v5 ∧ Below W0.heap.size W0 W) : Below W0.heap.size W0 W := hS.2.2.2.2.2.2
end
def exK (f : Nat → Int) (n k : Nat) : Int := if k < n then f k else 0
def cK (p a b k : Nat) : Nat := if k = p then 4 else if k < a then 1 else if k < b then 2 else 3
/-- Behind keep's first statement. -/
def CutK (w : World) (nr nc no : Nat) (pc : Int) (hl st : Bool) (fr fc : Nat → Int) (bo : List Int) (s : Value) (wx : World) : Prop :=
  ∃ p c ar cr ac cc ao co, s = .pointer (some ⟨p, 0, none⟩) ∧ w.heap.size + 2 ≤ p ∧ c p = 4 ∧ Box wx p 37 (.slice ar nr cr) (.int .i64 pc) (.slice ac nc cc) (.bool hl) (.bool st) (.slice ao no co) ∧ Box wx (w.heap.size + 1) 37 (.slice none 0 0) (.int .i64 0) (.slice none 0 0) (.bool false) (.bool false) (.slice none 0 0) ∧
    Own wx c 1 (w.heap.size + 2) (.slice ar nr cr) (csL fr nr) ∧ Own wx c 2 (w.heap.size + 2) (.slice ac nc cc) (csL fc nc) ∧ Own wx c 3 (w.heap.size + 2) (.slice ao no co) (bys bo) ∧ Below w.heap.size w wx
def RelK (w : World) (p nr nc no : Nat) (pc : Int) (hl st : Bool) (fr fc : Nat → Int) (bo : List Int) (ar : Option Addr) (cr : Nat) (ao : Option Addr) (co : Nat) (gk : Nat) (_s : Value) (wr : World) : Prop :=
  ∃ k c ac cc, nc ≤ k ∧ k ≤ max 11 nc ∧ gk = 11 - k ∧ c p = 4 ∧ Box wr p 37 (.slice ar nr cr) (.int .i64 pc) (.slice ac k cc) (.bool hl) (.bool st) (.slice ao no co) ∧ Box wr (w.heap.size + 1) 37 (.slice none 0 0) (.int .i64 0) (.slice none 0 0) (.bool false) (.bool false) (.slice none 0 0) ∧
    Own wr c 1 (w.heap.size + 2) (.slice ar nr cr) (csL fr nr) ∧ Own wr c 2 (w.heap.size + 2) (.slice ac k cc) (csL (exK fc nc) k) ∧ Own wr c 3 (w.heap.size + 2) (.slice ao no co) (bys bo) ∧ Below w.heap.size w wr
theorem fin_keep (w W0 uR wR uC wC uO wO F : World) (p nr nc no cr cc co : Nat) (ar ac ao : Option Addr) (pc : Int) (hl st : Bool) (fr fc : Nat → Int) (bo : List Int) (kR kC kO : Nat → Nat)
    (hs0 : w.heap.size + 2 ≤ W0.heap.size) (hw : Below w.heap.size w W0) (b2 : Box W0 (w.heap.size + 1) 37 (.slice none 0 0) (.int .i64 0) (.slice none 0 0) (.bool false) (.bool false) (.slice none 0 0))
    (h0 : Below W0.heap.size W0 uR) (hR : Below uR.heap.size uR wR) (oR : Own wR kR 0 uR.heap.size (.slice ar nr cr) ([] ++ csL fr nr))
    (h1 : Below wR.heap.size wR uC) (hC : Below uC.heap.size uC wC) (oC : Own wC kC 0 uC.heap.size (.slice ac nc cc) ([] ++ csL fc nc))
    (h2 : Below wC.heap.size wC uO) (hO : Below uO.heap.size uO wO) (oO : Own wO kO 0 uO.heap.size (.slice ao no co) ([] ++ bys bo))
    (bF : Box F p 37 (.slice ar nr cr) (.int .i64 pc) (.slice ac nc cc) (.bool hl) (.bool st) (.slice ao no co)) (hF : ∀ k, k ≠ p → k < wO.heap.size → F.heap[k]? = wO.heap[k]?) (hsF : wO.heap.size ≤ F.heap.size) (hBF : W0.heap.size ≤ p → Below W0.heap.size wO F)
    (hp : (W0.heap.size ≤ p ∧ p < uR.heap.size) ∨ (wR.heap.size ≤ p ∧ p < uC.heap.size) ∨ (wC.heap.size ≤ p ∧ p < uO.heap.size) ∨ wO.heap.size ≤ p) :
    CutK w nr nc no pc hl st fr fc bo (.pointer (some ⟨p, 0, none⟩)) F := by
  have z0 := h0.size
  have zR := hR.size
  have z1 := h1.size
  have zC := hC.size
  have z2 := h2.size
  have zO := hO.size
  have hp0 : W0.heap.size ≤ p := by omega
  have hWO : Below W0.heap.size W0 wO := ((((h0.trans (hR.mono z0)).trans (h1.mono (by omega))).trans (hC.mono (by omega))).trans (h2.mono (by omega))).trans (hO.mono (by omega))
  have hWF : Below W0.heap.size W0 F := hWO.trans (hBF hp0)
  have eR : ∀ k, k < wR.heap.size → k ≠ p → F.heap[k]? = wR.heap[k]? := fun k hk hkp => by
    rw [hF k hkp (by omega), hO.block k (by omega), h2.block k (by omega), hC.block k (by omega), h1.block k (by omega)]
  have eC : ∀ k, k < wC.heap.size → k ≠ p → F.heap[k]? = wC.heap[k]? := fun k hk hkp => by
    rw [hF k hkp (by omega), hO.block k (by omega), h2.block k (by omega)]
  rw [List.nil_append] at oR oC oO
  refine ⟨p, cK p wR.heap.size wC.heap.size, ar, cr, ac, cc, ao, co, rfl, by omega, by unfold cK; rw [if_pos rfl], bF, b2.below hWF b2.lt, ?_, ?_, ?_, hw.trans (hWF.mono hw.size)⟩
  · exact (oR.keep (w' := F) (c' := cK p wR.heap.size wC.heap.size) (d' := 1) (by omega) fun k hB hk _ => ⟨by unfold cK; rw [if_neg (by omega), if_pos hk], eR k hk (by omega)⟩).base (by omega)
  · exact (oC.keep (w' := F) (c' := cK p wR.heap.size wC.heap.size) (d' := 2) (by omega) fun k hB hk _ => ⟨by unfold cK; rw [if_neg (by omega), if_neg (by omega), if_pos hk], eC k hk (by omega)⟩).base (by omega)
  · exact (oO.keep (w' := F) (c' := cK p wR.heap.size wC.heap.size) (d' := 3) (by omega) fun k hB hk _ => ⟨by unfold cK; rw [if_neg (by omega), if_neg (by omega), if_neg (by omega)], hF k (by omega) hk⟩).base (by omega)
set_option maxRecDepth 100000 in
set_option maxHeartbeats 8000000 in
theorem keep_any (w : World) (Ar Ac Ao : Option Addr) (nr cr nc cc no co : Nat) (pc : Int) (hl st : Bool) (fr fc : Nat → Int) (bo : List Int) (vm : Value)
    (hr : IntsAt w Ar nr fr) (hnr : nr ≤ 100000) (hc : IntsAt w Ac nc fc) (hnc : nc ≤ 100000) (ho : Src w Ao no (bys bo)) (hno : no ≤ 100000) :
    Calls Try.prog 62 #[.agg #[.slice Ar nr cr, .int .i64 pc, .slice Ac nc cc, .bool hl, .bool st, .slice Ao no co], vm] w (StP w nr (max 11 nc) no pc hl st fr (exK fc nc) bo) := by
  obtain ⟨i0, hi, hz0, hz1, hz2⟩ := info_parts Try.infoK64
  have Hi := Lib.hid hi
  have Hz0 := Lib.hid hz0
  have Hz1 := Lib.hid hz1
  have Hz2 := Lib.hid hz2
  clear hi hz0 hz1 hz2
  obtain ⟨i8, hi, hz0, hz1, hz2⟩ := info_parts Try.infoK8
  have Ji := Lib.hid hi
  have Jz0 := Lib.hid hz0
  have Jz1 := Lib.hid hz1
  have Jz2 := Lib.hid hz2
  clear hi hz0 hz1 hz2
  have HR := Lib.hid (ints_src' hr)
  have HC := Lib.hid (ints_src' hc)
  have HO := Lib.hid ho
  clear hr hc ho
  obtain ⟨W0, hW0⟩ : ∃ W0, ((w.alloc (Obj.cells #[.slice Ar nr cr, .int .i64 pc, .slice Ac nc cc, .bool hl, .bool st, .slice Ao no co] 37)).alloc (Obj.cells #[.slice none 0 0, .int .i64 0, .slice none 0 0, .bool false, .bool false, .slice none 0 0] 37)) = W0 := ⟨_, rfl⟩
  have b1 : Box W0 w.heap.size 37 (.slice Ar nr cr) (.int .i64 pc) (.slice Ac nc cc) (.bool hl) (.bool st) (.slice Ao no co) := by rw [← hW0]; exact (Box.new _ _ _ _ _ _ _ _).alloc _
  have b2 : Box W0 (w.heap.size + 1) 37 (.slice none 0 0) (.int .i64 0) (.slice none 0 0) (.bool false) (.bool false) (.slice none 0 0) := by rw [← hW0]; simpa using Box.new (w.alloc (Obj.cells #[.slice Ar nr cr, .int .i64 pc, .slice Ac nc cc, .bool hl, .bool st, .slice Ao no co] 37)) 37 (.slice none 0 0) (.int .i64 0) (.slice none 0 0) (.bool false) (.bool false) (.slice none 0 0)
  have hs0 : w.heap.size + 2 ≤ W0.heap.size := by rw [← hW0]; simp
  have hbw : Below w.heap.size w W0 := by rw [← hW0]; exact ((Below.refl _ _).alloc (Nat.le_refl _) _).alloc (by simp) _
  have HW0 := Lib.hid hW0
  have HB1 := Lib.hid b1
  have HB2 := Lib.hid b2
  have HS0 := Lib.hid hs0
  have HBW := Lib.hid hbw
  have SR := Lib.hid (HR.out.below hbw)
  have SC := Lib.hid (HC.out.below hbw)
  have SO := Lib.hid (HO.out.below hbw)
  clear hW0 b1 b2 hs0 hbw
  go_enter Try.func62, Try.ntmps62
  go_upto_region 1 with fail
  rw [HW0.out]
  have hS0 : W0.drew.cell? ⟨w.heap.size, 0, none⟩ = some (.slice Ar nr cr) ∧ W0.drew.cell? ⟨w.heap.size, 1, none⟩ = some (.int .i64 pc) ∧ W0.drew.cell? ⟨w.heap.size, 2, none⟩ = some (.slice Ac nc cc) ∧ W0.drew.cell? ⟨w.heap.size, 3, none⟩ = some (.bool hl) ∧ W0.drew.cell? ⟨w.heap.size, 4, none⟩ = some (.bool st) ∧ W0.drew.cell? ⟨w.heap.size, 5, none⟩ = some (.slice Ao no co) ∧ Below W0.heap.size W0 W0.drew := by
    obtain ⟨g0, g1, g2, g3, g4, g5, _⟩ := HB1.out.cells
    exact ⟨g0, g1, g2, g3, g4, g5, (Below.refl _ _).drew⟩
  have HSS := Lib.hid hS0
  clear hS0
  have hB0 : w.heap.size + 2 ≤ W0.heap.size := HS0.out
  go_cut [5] (CutK w nr nc no pc hl st fr fc bo)
  case first =>
    go_region_held3 (fun w' => w'.cell? ⟨w.heap.size, 0, none⟩ = some (.slice Ar nr cr) ∧ w'.cell? ⟨w.heap.size, 1, none⟩ = some (.int .i64 pc) ∧ w'.cell? ⟨w.heap.size, 2, none⟩ = some (.slice Ac nc cc) ∧ w'.cell? ⟨w.heap.size, 3, none⟩ = some (.bool hl) ∧ w'.cell? ⟨w.heap.size, 4, none⟩ = some (.bool st) ∧ w'.cell? ⟨w.heap.size, 5, none⟩ = some (.slice Ao no co) ∧ Below W0.heap.size W0 w') (first | (with_reducible exact HSS.out) | (with_reducible assumption) | (with_reducible exact keepKD HSS.out _) | (with_reducible exact keepK (by assumption) (by assumption)) | (with_reducible exact keepKA (by assumption) _) | (with_reducible exact keepKA HSO.out _) | (with_reducible refine keepKS (by assumption) _ _ _ _ _ _ _ ?_ ?_ <;> omega))
      (first
        | (refine step_append_mine _ (by rfl) (.const (.slice none 0 0)) (.tmp 7) 27 (by rfl) 3 i0 (.int .i64 0) 8 Try.underlying27 Hi.out Hz0.out Hz1.out Hz2.out rfl (fun _ => 1) 0 _ (.slice none 0 0) [] 0 rfl (by rfl) (Own.nil _ _ _ _) (Nat.le_refl _) Ar nr cr (csL fr nr) (by rfl) (by exact SR.out.below (pickK (by assumption))) (by unfold maxLen; omega) (by omega) nr (Nat.zero_add _) ?_; intro ar cr' wR kR hoR hstR; have hbR := stp_all hstR; have HoR := Lib.hid hoR; have HbR := Lib.hid (below_ud hbR); have sR := (pickK (keepK (by assumption) hbR)).size; (try (have HZ := Lib.hid ((Box.new W0 37 (.slice none 0 0) (.int .i64 0) (.slice none 0 0) (.bool false) (.bool false) (.slice none 0 0)).below HbR.out (by simp)))); clear hoR hstR)
        | (refine step_append_mine _ (by rfl) (.const (.slice none 0 0)) (.tmp 12) 27 (by rfl) 3 i0 (.int .i64 0) 8 Try.underlying27 Hi.out Hz0.out Hz1.out Hz2.out rfl (fun _ => 1) 0 _ (.slice none 0 0) [] 0 rfl (by rfl) (Own.nil _ _ _ _) (Nat.le_refl _) Ac nc cc (csL fc nc) (by rfl) (by exact SC.out.below (pickK (by assumption))) (by unfold maxLen; omega) (by omega) nc (Nat.zero_add _) ?_; intro ac cc' wC kC hoC hstC; have hbC := stp_all hstC; have HoC := Lib.hid hoC; have HbC := Lib.hid hbC; have sC := (pickK (keepK (by assumption) hbC)).size; (first | (have q := HZ.out.below HbC.out HZ.out.lt; clear HZ; have HZ := Lib.hid q; clear q) | (have HZ := Lib.hid ((Box.new wR 37 (.slice none 0 0) (.int .i64 0) (.slice none 0 0) (.bool false) (.bool false) (.slice none 0 0)).below HbC.out (by simp))) | skip); clear hoC hstC)
        | (refine step_append_mine _ (by rfl) (.const (.slice none 0 0)) (.tmp 19) 35 (by rfl) 5 i8 (.int .u8 0) 1 Try.underlying35 Ji.out Jz0.out Jz1.out Jz2.out rfl (fun _ => 1) 0 _ (.slice none 0 0) [] 0 rfl (by rfl) (Own.nil _ _ _ _) (Nat.le_refl _) Ao no co (bys bo) (by rfl) (by exact SO.out.below (pickK (by assumption))) (by unfold maxLen; omega) (by omega) no (Nat.zero_add _) ?_; intro ao co' wO kO hoO hstO; have hbO := stp_all hstO; have HSO := Lib.hid (keepK (by assumption) hbO); have HoO := Lib.hid hoO; have HbO := Lib.hid hbO; have sO := (pickK HSO.out).size; (first | (have q := HZ.out.below HbO.out HZ.out.lt; clear HZ; have HZ := Lib.hid q; clear q) | (have HZ := Lib.hid ((Box.new wC 37 (.slice none 0 0) (.int .i64 0) (.slice none 0 0) (.bool false) (.bool false) (.slice none 0 0)).below HbO.out (by simp))) | skip); (try (obtain ⟨z0, z1, z2, z3, z4, z5, zf⟩ := HZ.out.cells; have y0 := zf 0; have y1 := zf 1; have y2 := zf 2; have y3 := zf 3; have y4 := zf 4; have y5 := zf 5; clear zf)); clear hoO hstO))
    · go_wp2_with fail
      go_meet
      exact fin_keep w W0 W0 wR wR wC wC wO _ wO.heap.size nr nc no cr' cc' co' ar ac ao pc hl st fr fc bo kR kC kO hB0 HBW.out HB2.out (Below.refl _ _) HbR.out HoR.out (Below.refl _ _) HbC.out HoC.out (Below.refl _ _) HbO.out HoO.out (Box.new _ _ _ _ _ _ _ _) (fun k _ hk => Below.heap_alloc _ _ _ hk) (by simp) (fun _ => (Below.refl _ _).alloc sO _) (.inr (.inr (.inr (Nat.le_refl _))))
    · go_wp2_with fail
      go_meet
      obtain ⟨q1, q2, q3, q4⟩ := st6 (s0 := .slice ar nr cr') (s1 := .int .i64 pc) (s2 := .slice ac nc cc') (s3 := .bool hl) (s4 := .bool st) (s5 := .slice ao no co') HZ.out rfl
      exact fin_keep w W0 W0 wR wR wC (wC.alloc (.cells #[.slice none 0 0, .int .i64 0, .slice none 0 0, .bool false, .bool false, .slice none 0 0] 37)) wO _ wC.heap.size nr nc no cr' cc' co' ar ac ao pc hl st fr fc bo kR kC kO hB0 HBW.out HB2.out (Below.refl _ _) HbR.out HoR.out (Below.refl _ _) HbC.out HoC.out ((Below.refl _ _).alloc (Nat.le_refl _) _) HbO.out HoO.out q1 (fun k hk _ => q2 k hk) (Nat.le_of_eq q3.symm) (fun h => q4 _ h) (.inr (.inr (.inl ⟨Nat.le_refl _, by simp⟩)))
    · go_wp2_with fail
      go_meet
      obtain ⟨q1, q2, q3, q4⟩ := st6 (s0 := .slice ar nr cr') (s1 := .int .i64 pc) (s2 := .slice ac nc cc') (s3 := .bool hl) (s4 := .bool st) (s5 := .slice ao no co') HZ.out rfl
      exact fin_keep w W0 W0 wR (wR.alloc (.cells #[.slice none 0 0, .int .i64 0, .slice none 0 0, .bool false, .bool false, .slice none 0 0] 37)) wC wC wO _ wR.heap.size nr nc no cr' cc' co' ar ac ao pc hl st fr fc bo kR kC kO hB0 HBW.out HB2.out (Below.refl _ _) HbR.out HoR.out ((Below.refl _ _).alloc (Nat.le_refl _) _) HbC.out HoC.out (Below.refl _ _) HbO.out HoO.out q1 (fun k hk _ => q2 k hk) (Nat.le_of_eq q3.symm) (fun h => q4 _ h) (.inr (.inl ⟨Nat.le_refl _, by simp⟩))
    · go_wp2_with fail
      go_meet
      obtain ⟨q1, q2, q3, q4⟩ := st6 (s0 := .slice ar nr cr') (s1 := .int .i64 pc) (s2 := .slice ac nc cc') (s3 := .bool hl) (s4 := .bool st) (s5 := .slice ao no co') HZ.out rfl
      exact fin_keep w W0 (W0.alloc (.cells #[.slice none 0 0, .int .i64 0, .slice none 0 0, .bool false, .bool false, .slice none 0 0] 37)) wR wR wC wC wO _ W0.heap.size nr nc no cr' cc' co' ar ac ao pc hl st fr fc bo kR kC kO hB0 HBW.out HB2.out ((Below.refl _ _).alloc (Nat.le_refl _) _) HbR.out HoR.out (Below.refl _ _) HbC.out HoC.out (Below.refl _ _) HbO.out HoO.out q1 (fun k hk _ => q2 k hk) (Nat.le_of_eq q3.symm) (fun h => q4 _ h) (.inl ⟨Nat.le_refl _, by simp⟩)
  case rest =>
    obtain ⟨p, c, ar, cr', ac, cc', ao, co', rfl, hp, hcp, b1, b2, oR, oC, oO, hb⟩ := hcut
    have H0 := Lib.hid (show RelK w p nr nc no pc hl st fr fc bo ar cr' ao co' (11 - nc) undef wc from ⟨nc, c, ac, cc', Nat.le_refl _, by omega, rfl, hcp, b1, b2, oR, by rw [csL_congr (g := fc) (fun k hk => by unfold exK; rw [if_pos hk])]; exact oC, oO, hb⟩)
    clear hcp b1 b2 oR oC oO hb HB1 HB2 HSS SR SC SO HBW
    go_wp2_with fail
    go_loopg [25] (11 - nc) (RelK w p nr nc no pc hl st fr fc bo ar cr' ao co')
    case atStart => exact H0.out
    case round =>
      clear H0
      obtain ⟨k, c, ac, cc', hk1, hk2, rfl, hcp, b1, b2, oR, oC, oO, hb⟩ := hrel
      obtain ⟨g0, g1, g2, g3, g4, g5, gf⟩ := b1.cells
      by_cases hlt : k < 11
      · have hlt2 : (k : Int) < 11 := by omega
        have hpl : p < wr.heap.size := b1.lt
        have hne : p ≠ wr.heap.size := by omega
        have HB1 := Lib.hid b1
        have HB2 := Lib.hid b2
        have HoR := Lib.hid oR
        have HoC := Lib.hid oC
        have HoO := Lib.hid oO
        have Hb := Lib.hid hb
        have HCP := Lib.hid hcp
        have HLN := Lib.hid (csL_len (exK fc nc) k)
        clear b1 b2 oR oC oO hb hcp gf
        go_wp2_with (at_builtin; go_must (refine wpList_append_mine _ rfl (.tmp 27) (.tmp 28) 27 rfl 3 i0 (.int .i64 0) 8 Try.underlying27 Hi.out Hz0.out Hz1.out Hz2.out rfl c 2 (w.heap.size + 2) (.slice ac k cc') (csL (exK fc nc) k) k HLN.out rfl (HoC.out.alloc _) (by simp; omega) (some ⟨wr.heap.size, 0, none⟩) 1 1 [.int .i64 0] rfl (src_new _ _ _ rfl) (by unfold maxLen; omega) (by omega) ?_; intro a' cap' w' c' ho hst; have hb1 := (HB1.out.alloc (.cells #[.int .i64 0] 3)).keep (hst.block p (by simp; omega) (.inr (by rw [HCP.out]; decide))); have x2 := hb1.cells.2.2.1; have f2 := hb1.cells.2.2.2.2.2.2 2; have HB1' := Lib.hid hb1; have HST := Lib.hid hst; have HO' := Lib.hid ho; clear hb1 hst ho))
        go_roundg (11 - (k + 1))
        case measure => omega
        case rel =>
          have hst := HST.out
          have hz := hst.size
          rw [World.size_alloc] at hz
          have ho := HO'.out
          have hcl : csL (exK fc nc) k ++ [.int .i64 0] = csL (exK fc nc) (k + 1) := by
            unfold csL; rw [List.range_succ, List.map_append]; simp [exK]; omega
          rw [hcl] at ho
          have hcp' : c' p = 4 := (hst.col p (by simp; omega)).trans HCP.out
          have ne4 : ∀ d, d ≠ 4 → c' p ≠ d := fun d h => by rw [hcp']; exact fun e => h e.symm
          have hnew : RelK w p nr nc no pc hl st fr fc bo ar cr' ao co' (11 - (k + 1)) (.bool true) (w'.setCell ⟨p, 2, none⟩ (.slice a' (k + 1) cap')) := by
            have hlow : Below (w.heap.size + 2) wr w' := ((Below.refl _ _).alloc (by omega) _).trans (hst.below (by simp; omega))
            refine ⟨k + 1, c', a', cap', by omega, by omega, rfl, hcp', HB1'.out.set2 _, (HB2.out.below hlow (by omega)).far (p := ⟨p, 2, none⟩) (show w.heap.size + 1 ≠ p by omega) _, ?_, ?_, ?_, ?_⟩
            · exact ((HoR.out.alloc _).step hst (by decide)).far (p := ⟨p, 2, none⟩) (.inr (ne4 1 (by decide))) _
            · exact ho.far (p := ⟨p, 2, none⟩) (.inr (ne4 2 (by decide))) _
            · exact ((HoO.out.alloc _).step hst (by decide)).far (p := ⟨p, 2, none⟩) (.inr (ne4 3 (by decide))) _
            · exact (Hb.out.trans (hlow.mono (by omega))).setCell (p := ⟨p, 2, none⟩) (show w.heap.size ≤ p by omega) _
          first | exact hnew | ((repeat apply Exists.intro); exact ⟨hnew, rfl⟩)
      · have hge : (11 : Int) ≤ k := by omega
        obtain ⟨q0, q1, q2, q3, q4, q5, qf⟩ := b2.cells
        have d0 := qf 0
        have d1 := qf 1
        have d2 := qf 2
        have d3 := qf 3
        have d4 := qf 4
        have d5 := qf 5
        have HB2 := Lib.hid b2
        have HoR := Lib.hid oR
        have HoC := Lib.hid oC
        have HoO := Lib.hid oO
        have Hb := Lib.hid hb
        clear gf qf b1 b2 oR oC oO hb hcp
        go_wp2_with fail
        obtain ⟨W4, hW4⟩ : ∃ W4, ((((((wr.setCell ⟨w.heap.size + 1, 0, none⟩ (.slice ar nr cr')).setCell ⟨w.heap.size + 1, 1, none⟩ (.int .i64 pc)).setCell ⟨w.heap.size + 1, 2, none⟩ (.slice ac k cc')).setCell ⟨w.heap.size + 1, 3, none⟩ (.bool hl)).setCell ⟨w.heap.size + 1, 4, none⟩ (.bool st)).setCell ⟨w.heap.size + 1, 5, none⟩ (.slice ao no co')) = W4 := ⟨_, rfl⟩
        rw [hW4]
        obtain ⟨b4, k4, s4, l4⟩ := st6 HB2.out hW4
        obtain ⟨r0, r1, r2, r3, r4, r5, _⟩ := b4.cells
        have hM : max 11 nc = k := by omega
        refine bodyPost_ret (v := .agg #[.slice ar nr cr', .int .i64 pc, .slice ac k cc', .bool hl, .bool st, .slice ao no co']) (by simp [results, Try.results62, go_sem, r0, r1, r2, r3, r4, r5]) rfl ?_
        rw [hM]
        have key : ∀ {d : Nat} {v : Value} {xs : List Value}, Own wr c d (w.heap.size + 2) v xs → Own W4 c d w.heap.size v xs := fun h => (h.keep (w' := W4) (by omega) fun j hB _ hc => ⟨hc, k4 j (by omega)⟩).base (by omega)
        exact ⟨c, ar, cr', ac, cc', ao, co', rfl, key HoR.out, key HoC.out, key HoO.out, Hb.out.trans (l4 _ (by omega))⟩
end Go.Proofs.Ytodkenbkogfefaa
