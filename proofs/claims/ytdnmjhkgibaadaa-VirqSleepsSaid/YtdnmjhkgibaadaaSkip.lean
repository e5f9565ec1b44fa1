/- What virq.Skip makes of a state in memory: a contract. -/
import Derived.Test.YtdnmjhkgibaadaaVirq
import Derived.Test.YtdnmjhkgibaadaaRow
import Derived.Deep.RegionWith
import Derived.BigRegion
import Derived.Deep.DeepCutAuto
namespace Go.Proofs.Ytdnmjhkgibaadaa
open Go.RowKit

/-- A slice of the call's own from block B on that reads as xs. -/
def Rd (w : World) (B : Nat) (A : Option Addr) (n : Nat) (xs : List Value) : Prop := Src w A n xs ∧ ∀ ad, A = some ad → B ≤ ad.block
theorem Rd.below {w w' : World} {B : Nat} {A : Option Addr} {n : Nat} {xs : List Value} (h : Rd w B A n xs) (hb : Below w.heap.size w w') : Rd w' B A n xs := ⟨h.1.below hb, h.2⟩
theorem Rd.alloc {w : World} {B : Nat} {A : Option Addr} {n : Nat} {xs : List Value} (h : Rd w B A n xs) (o : Obj) : Rd (w.alloc o) B A n xs := ⟨h.1.alloc o, h.2⟩
theorem Rd.low {w : World} {B : Nat} {A : Option Addr} {n : Nat} {xs : List Value} (h : Rd w B A n xs) {p : Addr} (hp : p.block < B) (u : Value) : Rd (w.setCell p u) B A n xs := by
  refine ⟨⟨h.1.1, h.1.2.1, h.1.2.2.1, fun ad e j v hj => ?_⟩, h.2⟩
  have := h.2 ad e
  rw [World.cell?_setCell_other _ _ _ _ (fun e => by
    have hb : p.block = (ad.add j).block := by rw [e]
    have : (ad.add j).block = ad.block := by unfold Addr.add; split <;> rfl
    omega)]
  exact h.1.2.2.2 ad e j v hj
theorem rd_of_own {w : World} {c : Nat → Nat} {d B : Nat} {A : Option Addr} {n cap : Nat} {xs : List Value} (h : Own w c d B (.slice A n cap) xs) (h1 : ∀ u ∈ xs, u.oneCell' = true) : Rd w B A n xs := by
  refine ⟨own_src h h1, fun ad e => ?_⟩
  rcases h with ⟨hv, _⟩ | ⟨b, off, cap', hv, _, hB, _⟩
  · injection hv with e1; rw [e1] at e; cases e
  · injection hv with e1; rw [e1] at e; injection e with e; rw [← e]; exact hB
theorem stp_below {w w' : World} {c c' : Nat → Nat} {B : Nat} (h : Stp B (fun _ => False) w c w' c') : Below w.heap.size w w' :=
  ⟨h.os, h.tape, h.output, h.size, fun k hk => h.block k hk (.inr (fun h => h))⟩

theorem box_after (w w2 W3 : World) (v0 v1 v2 v3 v4 v5 r0 r1 r2 r3 r4 r5 n0 n5 : Value) (t : TypeId) (hb : Below ((w.alloc (Obj.cells #[v0, v1, v2, v3, v4, v5] t)).alloc (Obj.cells #[r0, r1, r2, r3, r4, r5] t)).heap.size ((w.alloc (Obj.cells #[v0, v1, v2, v3, v4, v5] t)).alloc (Obj.cells #[r0, r1, r2, r3, r4, r5] t)) w2) (h3 : ((w2.setCell ⟨w.heap.size, 0, none⟩ n0).setCell ⟨w.heap.size, 5, none⟩ n5) = W3) :
    (∀ w', Below W3.heap.size W3 w' → w'.cell? ⟨w.heap.size, 0, none⟩ = some n0 ∧ w'.cell? ⟨w.heap.size, 1, none⟩ = some v1 ∧ w'.cell? ⟨w.heap.size, 2, none⟩ = some v2 ∧ w'.cell? ⟨w.heap.size, 3, none⟩ = some v3 ∧ w'.cell? ⟨w.heap.size, 4, none⟩ = some v4 ∧ w'.cell? ⟨w.heap.size, 5, none⟩ = some n5 ∧ w'.cell? ⟨w.heap.size + 1, 0, none⟩ = some r0 ∧ w'.cell? ⟨w.heap.size + 1, 1, none⟩ = some r1 ∧ w'.cell? ⟨w.heap.size + 1, 2, none⟩ = some r2 ∧ w'.cell? ⟨w.heap.size + 1, 3, none⟩ = some r3 ∧ w'.cell? ⟨w.heap.size + 1, 4, none⟩ = some r4 ∧ w'.cell? ⟨w.heap.size + 1, 5, none⟩ = some r5 ∧ (∀ k, w'.frozen? ⟨w.heap.size, k, none⟩ = false) ∧ (∀ k, w'.frozen? ⟨w.heap.size + 1, k, none⟩ = false)) ∧ w.heap.size + 2 ≤ W3.heap.size ∧ W3.heap.size = w2.heap.size ∧ Below w.heap.size w W3 := by
  have hcb := cell_below hb
  have hsz := hb.size
  have hs3 : W3.heap.size = w2.heap.size := by rw [← h3]; simp
  simp only [World.size_alloc] at hsz
  have hf : ∀ k, w2.frozen? ⟨w.heap.size, k, none⟩ = false := fun k => by
    rw [hb.frozen (p := ⟨w.heap.size, k, none⟩) (by simp; omega)]; simp
  have hf1 : ∀ k, w2.frozen? ⟨w.heap.size + 1, k, none⟩ = false := fun k => by
    rw [hb.frozen (p := ⟨w.heap.size + 1, k, none⟩) (by simp)]; simp
  have a0 : w2.cell? ⟨w.heap.size, 0, none⟩ = some v0 := hcb _ _ (by simp)
  have a5 : w2.cell? ⟨w.heap.size, 5, none⟩ = some v5 := hcb _ _ (by simp)
  have oth : ∀ b k v, (b ≠ w.heap.size ∨ (k ≠ 0 ∧ k ≠ 5)) → w2.cell? ⟨b, k, none⟩ = some v → W3.cell? ⟨b, k, none⟩ = some v := by
    intro b k v hbk hv
    rw [← h3, World.cell?_setCell_other _ _ _ _ (by intro e; injection e; omega), World.cell?_setCell_other _ _ _ _ (by intro e; injection e; omega)]; exact hv
  refine ⟨fun w' hb' => ?_, by omega, hs3, ?_⟩
  · have hc' := cell_below hb'
    refine ⟨hc' _ _ ?_, hc' _ _ (oth _ _ _ (by simp) (hcb _ _ (by simp))), hc' _ _ (oth _ _ _ (by simp) (hcb _ _ (by simp))), hc' _ _ (oth _ _ _ (by simp) (hcb _ _ (by simp))), hc' _ _ (oth _ _ _ (by simp) (hcb _ _ (by simp))), hc' _ _ ?_, hc' _ _ (oth _ _ _ (by simp) (hcb _ _ (by simp))), hc' _ _ (oth _ _ _ (by simp) (hcb _ _ (by simp))), hc' _ _ (oth _ _ _ (by simp) (hcb _ _ (by simp))), hc' _ _ (oth _ _ _ (by simp) (hcb _ _ (by simp))), hc' _ _ (oth _ _ _ (by simp) (hcb _ _ (by simp))), hc' _ _ (oth _ _ _ (by simp) (hcb _ _ (by simp))), fun k => ?_, fun k => ?_⟩
    · rw [← h3, World.cell?_setCell_other _ _ _ _ (by simp)]; exact World.cell?_setCell_same _ _ _ a0
    · rw [← h3]; exact World.cell?_setCell_same _ _ _ ((World.cell?_setCell_other _ _ _ _ (by simp)).trans a5)
    · rw [hb'.frozen (p := ⟨w.heap.size, k, none⟩) (show w.heap.size < _ by omega), ← h3, World.frozen?_setCell, World.frozen?_setCell]; exact hf k
    · rw [hb'.frozen (p := ⟨w.heap.size + 1, k, none⟩) (show w.heap.size + 1 < _ by omega), ← h3, World.frozen?_setCell, World.frozen?_setCell]; exact hf1 k
  · rw [← h3]
    have hb0 : Below w.heap.size w w2 := (((Below.refl _ _).alloc (Nat.le_refl _) _).alloc (by simp) _).trans (hb.mono (by simp; omega))
    exact (hb0.setCell (Nat.le_refl _) _).setCell (Nat.le_refl _) _

theorem Rd.keep {w w' : World} {B : Nat} {A : Option Addr} {n : Nat} {xs : List Value} (h : Rd w B A n xs) (hk : ∀ k, B ≤ k → k < w.heap.size → w'.heap[k]? = w.heap[k]?) : Rd w' B A n xs := by
  refine ⟨⟨h.1.1, h.1.2.1, h.1.2.2.1, fun ad e j v hj => ?_⟩, h.2⟩
  have hc := h.1.2.2.2 ad e j v hj
  have hlt := World.block_lt_of_cell? _ _ hc
  have hbl : (ad.add j).block = ad.block := by unfold Addr.add; split <;> rfl
  rw [World.cell?_of_block (w := w) (hk _ (by rw [hbl]; exact h.2 ad e) hlt)]; exact hc
theorem Rd.base {w : World} {B B' : Nat} {A : Option Addr} {n : Nat} {xs : List Value} (h : Rd w B A n xs) (hB : B' ≤ B) : Rd w B' A n xs := ⟨h.1, fun ad e => Nat.le_trans hB (h.2 ad e)⟩
/-- Behind the stores: the result's cells, and what is kept. -/
theorem six_end (w W3 w5 : World) (x : Int) (s0 s1 s2 s3 s4 s5 r0 r1 r2 r3 r4 r5 : Value) (hs : w.heap.size + 2 ≤ W3.heap.size) (hb5 : Below W3.heap.size W3 w5)
    (q0 : w5.cell? ⟨w.heap.size + 1, 0, none⟩ = some r0) (q1 : w5.cell? ⟨w.heap.size + 1, 1, none⟩ = some r1) (q2 : w5.cell? ⟨w.heap.size + 1, 2, none⟩ = some r2) (q3 : w5.cell? ⟨w.heap.size + 1, 3, none⟩ = some r3) (q4 : w5.cell? ⟨w.heap.size + 1, 4, none⟩ = some r4) (q5 : w5.cell? ⟨w.heap.size + 1, 5, none⟩ = some r5)
    (W6 : World) (h6 : ((((((((w5.setCell ⟨W3.heap.size, 7, none⟩ (.int .i64 x)).setCell ⟨w.heap.size, 2, none⟩ s2).setCell ⟨w.heap.size + 1, 0, none⟩ s0).setCell ⟨w.heap.size + 1, 1, none⟩ s1).setCell ⟨w.heap.size + 1, 2, none⟩ s2).setCell ⟨w.heap.size + 1, 3, none⟩ s3).setCell ⟨w.heap.size + 1, 4, none⟩ s4).setCell ⟨w.heap.size + 1, 5, none⟩ s5) = W6) :
    (W6.cell? ⟨w.heap.size + 1, 0, none⟩ = some s0 ∧ W6.cell? ⟨w.heap.size + 1, 1, none⟩ = some s1 ∧ W6.cell? ⟨w.heap.size + 1, 2, none⟩ = some s2 ∧ W6.cell? ⟨w.heap.size + 1, 3, none⟩ = some s3 ∧ W6.cell? ⟨w.heap.size + 1, 4, none⟩ = some s4 ∧ W6.cell? ⟨w.heap.size + 1, 5, none⟩ = some s5) ∧
    (∀ k, w.heap.size + 2 ≤ k → k < W3.heap.size → W6.heap[k]? = W3.heap[k]?) ∧ (∀ {t m : Nat} {F : Nat → Int}, RowIs w5 W3.heap.size t m F → RowIs W6 W3.heap.size t m (fun j => if j = 7 then x else F j)) ∧ (Below w.heap.size w W3 → Below w.heap.size w W6) := by
  have ne : ∀ {a b c d : Nat}, (a ≠ c ∨ b ≠ d) → (⟨a, b, none⟩ : Addr) ≠ ⟨c, d, none⟩ := by
    intro a b c d h e; injection e; omega
  have oth : ∀ (Y : World) (a b c d : Nat) (u v : Value), (a ≠ c ∨ b ≠ d) → Y.cell? ⟨c, d, none⟩ = some v → (Y.setCell ⟨a, b, none⟩ u).cell? ⟨c, d, none⟩ = some v := fun Y a b c d u v h hv => by
    rw [World.cell?_setCell_other _ _ _ _ (ne h)]; exact hv
  have same : ∀ (Y : World) (a b : Nat) (u v : Value), Y.cell? ⟨a, b, none⟩ = some v → (Y.setCell ⟨a, b, none⟩ u).cell? ⟨a, b, none⟩ = some u := fun Y a b u v hv => World.cell?_setCell_same _ _ _ hv
  have two : ∀ (k : Nat) (v : Value), w5.cell? ⟨w.heap.size + 1, k, none⟩ = some v → ((w5.setCell ⟨W3.heap.size, 7, none⟩ (.int .i64 x)).setCell ⟨w.heap.size, 2, none⟩ s2).cell? ⟨w.heap.size + 1, k, none⟩ = some v := fun k v hv =>
    oth _ _ _ _ _ _ _ (by omega) (oth _ _ _ _ _ _ _ (by omega) hv)
  subst h6
  refine ⟨⟨?_, ?_, ?_, ?_, ?_, ?_⟩, ?_, ?_, ?_⟩
  · refine oth _ _ _ _ _ _ _ (by omega) (oth _ _ _ _ _ _ _ (by omega) (oth _ _ _ _ _ _ _ (by omega) (oth _ _ _ _ _ _ _ (by omega) (oth _ _ _ _ _ _ _ (by omega) (same _ _ _ _ _ (two _ _ q0))))))
  · refine oth _ _ _ _ _ _ _ (by omega) (oth _ _ _ _ _ _ _ (by omega) (oth _ _ _ _ _ _ _ (by omega) (oth _ _ _ _ _ _ _ (by omega) (same _ _ _ _ _ (oth _ _ _ _ _ _ _ (by omega) (two _ _ q1))))))
  · refine oth _ _ _ _ _ _ _ (by omega) (oth _ _ _ _ _ _ _ (by omega) (oth _ _ _ _ _ _ _ (by omega) (same _ _ _ _ _ (oth _ _ _ _ _ _ _ (by omega) (oth _ _ _ _ _ _ _ (by omega) (two _ _ q2))))))
  · refine oth _ _ _ _ _ _ _ (by omega) (oth _ _ _ _ _ _ _ (by omega) (same _ _ _ _ _ (oth _ _ _ _ _ _ _ (by omega) (oth _ _ _ _ _ _ _ (by omega) (oth _ _ _ _ _ _ _ (by omega) (two _ _ q3))))))
  · refine oth _ _ _ _ _ _ _ (by omega) (same _ _ _ _ _ (oth _ _ _ _ _ _ _ (by omega) (oth _ _ _ _ _ _ _ (by omega) (oth _ _ _ _ _ _ _ (by omega) (oth _ _ _ _ _ _ _ (by omega) (two _ _ q4))))))
  · refine same _ _ _ _ _ (oth _ _ _ _ _ _ _ (by omega) (oth _ _ _ _ _ _ _ (by omega) (oth _ _ _ _ _ _ _ (by omega) (oth _ _ _ _ _ _ _ (by omega) (oth _ _ _ _ _ _ _ (by omega) (two _ _ q5))))))
  · intro k h1 h2
    rw [Below.heap_setCell _ _ _ _ (show k ≠ w.heap.size + 1 by omega), Below.heap_setCell _ _ _ _ (show k ≠ w.heap.size + 1 by omega), Below.heap_setCell _ _ _ _ (show k ≠ w.heap.size + 1 by omega), Below.heap_setCell _ _ _ _ (show k ≠ w.heap.size + 1 by omega), Below.heap_setCell _ _ _ _ (show k ≠ w.heap.size + 1 by omega), Below.heap_setCell _ _ _ _ (show k ≠ w.heap.size + 1 by omega), Below.heap_setCell _ _ _ _ (show k ≠ w.heap.size by omega), Below.heap_setCell _ _ _ _ (show k ≠ W3.heap.size by omega)]
    exact hb5.block k h2
  · intro t m F hrow
    refine ((((((((hrow.put 7 x).far ?_ _).far ?_ _).far ?_ _).far ?_ _).far ?_ _).far ?_ _).far ?_ _)
    all_goals first | (show W3.heap.size ≠ w.heap.size; omega) | (show W3.heap.size ≠ w.heap.size + 1; omega)
  · intro hb
    have h0 : Below w.heap.size w w5 := hb.trans (hb5.mono hb.size)
    refine (((((((h0.setCell ?_ _).setCell ?_ _).setCell ?_ _).setCell ?_ _).setCell ?_ _).setCell ?_ _).setCell ?_ _).setCell ?_ _
    all_goals first | (show w.heap.size ≤ W3.heap.size; omega) | (show w.heap.size ≤ w.heap.size; omega) | (show w.heap.size ≤ w.heap.size + 1; omega)
theorem own_nil0 {w : World} {c : Nat → Nat} {d B : Nat} {A : Option Addr} {n cap : Nat} {xs : List Value} (h : Own w c d B (.slice A n cap) xs) (hA : A = none) : cap = 0 := by
  subst hA
  rcases h with ⟨h, _⟩ | ⟨_, _, _, h, _⟩
  · injection h
  · injection h with h; cases h
/-- A control register so many steps later. -/
def skF (f : Nat → Int) (nc : Nat) (n : Int) (k : Nat) : Int := if k = 7 then W ((if 7 < nc then f 7 else 0) + max 0 n) else if k < nc then f k else 0
def SkipP (w : World) (nr no nc M T : Nat) (pc : Int) (h st : Bool) (f : Nat → Int) (n : Int) (xr xo : List Value) (e : Ending) (w' : World) : Prop :=
  ∃ ar cr' ao co' g, e = .returned (.agg #[.slice ar nr cr', .int .i64 pc, .slice (some ⟨g, 0, none⟩) M M, .bool h, .bool st, .slice ao no co']) ∧ Rd w' w.heap.size ar nr xr ∧ (ar = none → cr' = 0) ∧ Rd w' w.heap.size ao no xo ∧ (ao = none → co' = 0) ∧ RowIs w' g T M (skF f nc n) ∧ w.heap.size ≤ g ∧ Below w.heap.size w w'
theorem Try.infoI : (Try.prog.info? 3).map (fun i => (i.zero, i.size, i.bytes)) = some (some (.int .i64 0), 1, 8) := by kernel_rfl
theorem Try.sizeI : (Try.prog.info? 3).map (·.size) = some 1 := by kernel_rfl
set_option maxRecDepth 100000 in
set_option maxHeartbeats 4000000 in
theorem skip_any (w : World) (Ar Ao A : Option Addr) (nr cr no co nc cap : Nat) (pc : Int) (hl st : Bool) (f : Nat → Int) (xr xo : List Value) (n : Int)
    (hr : Src w Ar nr xr) (hrn : Ar = none → cr = 0) (hnr : nr ≤ 100000) (ho : Src w Ao no xo) (hon : Ao = none → co = 0) (hno : no ≤ 100000) (hc : IntsAt w A nc f) (hn : nc ≤ 100000) :
    Calls Try.prog 16 #[.agg #[.slice Ar nr cr, .int .i64 pc, .slice A nc cap, .bool hl, .bool st, .slice Ao no co], .int .i64 n] w (SkipP w nr no nc (max 11 nc) 3 pc hl st f n xr xo) := by
  have HX1 := Lib.hid hr.2.1
  have HX2 := Lib.hid ho.2.1
  obtain ⟨v7, hv7⟩ : ∃ v7, (if 7 < nc then f 7 else 0) = v7 := ⟨_, rfl⟩
  have HV7 := Lib.hid hv7
  clear hv7
  obtain ⟨i0, hi, hz0, hz1, hz2⟩ := info_parts Try.infoI
  have Hi := Lib.hid hi
  have Hz0 := Lib.hid hz0
  have Hz1 := Lib.hid hz1
  have Hz2 := Lib.hid hz2
  clear hi hz0 hz1 hz2
  obtain ⟨W0, hW0⟩ : ∃ W0, ((w.alloc (Obj.cells #[.slice Ar nr cr, .int .i64 pc, .slice A nc cap, .bool hl, .bool st, .slice Ao no co] 43)).alloc (Obj.cells #[.slice none 0 0, .int .i64 0, .slice none 0 0, .bool false, .bool false, .slice none 0 0] 43)) = W0 := ⟨_, rfl⟩
  have hce : ∀ w', Below W0.heap.size W0 w' → w'.cell? ⟨w.heap.size, 0, none⟩ = some (.slice Ar nr cr) ∧ w'.cell? ⟨w.heap.size, 1, none⟩ = some (.int .i64 pc) ∧ w'.cell? ⟨w.heap.size, 2, none⟩ = some (.slice A nc cap) ∧ w'.cell? ⟨w.heap.size, 3, none⟩ = some (.bool hl) ∧ w'.cell? ⟨w.heap.size, 4, none⟩ = some (.bool st) ∧ w'.cell? ⟨w.heap.size, 5, none⟩ = some (.slice Ao no co) ∧ w'.frozen? ⟨w.heap.size, 0, none⟩ = false ∧ w'.frozen? ⟨w.heap.size, 5, none⟩ = false ∧ Src w' Ar nr xr ∧ Src w' Ao no xo := by
    intro w' hb
    have hcb := cell_below hb
    have hfb : ∀ k, w'.frozen? ⟨w.heap.size, k, none⟩ = W0.frozen? ⟨w.heap.size, k, none⟩ := fun k => hb.frozen (p := ⟨w.heap.size, k, none⟩) (by rw [← hW0]; simp; omega)
    rw [← hW0] at hcb hfb hb
    exact ⟨hcb _ _ (by simp), hcb _ _ (by simp), hcb _ _ (by simp), hcb _ _ (by simp), hcb _ _ (by simp), hcb _ _ (by simp), by rw [hfb]; simp, by rw [hfb]; simp, ((hr.alloc _).alloc _).below hb, ((ho.alloc _).alloc _).below hb⟩
  have HCE := Lib.hid hce
  have HC := Lib.hid hc
  have HW0 := Lib.hid hW0
  clear hr ho hc hce hW0
  go_enter Try.func16, Try.ntmps16
  go_wp2_with fail
  rw [HW0.out]
  obtain ⟨g0, g1, g2, g3, g4, g5, g6, g7, g8, g9⟩ := HCE.out W0 (Below.refl _ _)
  have G8 := Lib.hid g8
  have G9 := Lib.hid g9
  clear g8 g9
  go_region_with (first | (go_at_call 29; refine (clone64 _ (fun _ => 0) 1 _ _ _ _ xr (Nat.le_refl _) (by exact G8.out) hrn hnr).mono ?_; rintro e w1 ⟨ar, cr', c1, rfl, hoR, hsR⟩; have hb1 : Below W0.heap.size W0 w1 := (Below.refl _ _).drew.trans (stp_below hsR); have HoR := Lib.hid hoR; have HB1 := Lib.hid hb1; clear hoR hsR hb1 g0 g1 g2 g3 g4 g5 g6 g7 G8 G9; obtain ⟨g0, g1, g2, g3, g4, g5, g6, g7, g8, g9⟩ := HCE.out w1 HB1.out; have G8 := Lib.hid g8; have G9 := Lib.hid g9; clear g8 g9) | (go_at_call 30; refine (clone8 _ (fun _ => 0) 1 _ _ _ _ xo (Nat.le_refl _) (by exact G9.out) hon hno).mono ?_; rintro e w2 ⟨ao, co', c2, rfl, hoO, hsO⟩; have hb2 : Below W0.heap.size W0 w2 := btrans HB1.out (stp_below hsO); have HoO := Lib.hid hoO; have HB2 := Lib.hid hb2; have HSO := Lib.hid (stp_below hsO); clear hoO hsO hb2 g0 g1 g2 g3 g4 g5 g6 g7 G8 G9; obtain ⟨g0, g1, g2, g3, g4, g5, g6, g7, g8, g9⟩ := HCE.out w2 HB2.out; have G8 := Lib.hid g8; have G9 := Lib.hid g9; clear g8 g9))
  all_goals
    obtain ⟨W3, hW3⟩ : ∃ W3, ((w2.setCell ⟨w.heap.size, 0, none⟩ (.slice ar nr cr')).setCell ⟨w.heap.size, 5, none⟩ (.slice ao no co')) = W3 := ⟨_, rfl⟩
    rw [hW3]
    have hb2 := HB2.out
    rw [← HW0.out] at hb2
    obtain ⟨fa, hs2, hs3, hbw⟩ := box_after w w2 W3 _ _ _ _ _ _ _ _ _ _ _ _ _ _ _ hb2 hW3
    have FA := Lib.hid fa
    have HBW := Lib.hid hbw
    have HS3 := Lib.hid hs3
    have HW3 := Lib.hid hW3
    clear fa hbw hW3 hb2 g0 g1 g2 g3 g4 g5 g6 g7 hs3
    obtain ⟨g0, g1, g2, g3, g4, g5, r0, r1, r2, r3, r4, r5, f0, f1⟩ := FA.out W3 (Below.refl _ _)
    have e0 := f0 2
    clear f0 f1
    have HCW := Lib.hid (HC.out.below HBW.out)
    by_cases hm : nc ≤ 11
    · have hm2 : (nc : Int) ≤ 11 := by omega
      by_cases hz : n ≤ 0
      · skip
        go_wp2_with (first | (at_make; go_must (refine wpList_make_zeros _ rfl (.tmp 17) (.tmp 17) 41 rfl 3 i0 Try.underlying41 Hi.out Hz0.out Hz1.out Hz2.out 11 11 rfl rfl rfl (by omega) ?_; intro w4 HR4 HG4; have HB4 := Lib.hid ((Below.refl W3.heap.size W3).grown HG4.out (Nat.le_refl _) (by simp)); clear g0 g1 g2 g3 g4 g5 r0 r1 r2 r3 r4 r5 e0; obtain ⟨g0, g1, g2, g3, g4, g5, r0, r1, r2, r3, r4, r5, f0, f1⟩ := FA.out w4 HB4.out; have e0 := f0 2; clear f0 f1)) | (with_reducible refine wpList_copy_splice rfl (.tmp 19) (.tmp 21) 41 41 rfl 3 Try.underlying41 Try.sizeI (some ⟨W3.heap.size, 0, none⟩) A 11 11 nc cap rfl rfl W3.heap.size 0 (zs0 11) 3 HR4.out (csL f nc) (by rw [csL_len]; exact (Nat.min_eq_left (by omega)).symm) (fun hp => ⟨rfl, ints_src (HCW.out.below HB4.out) hp⟩) (by rw [csL_len]; simp [zs0]; try omega) (csL_one _ _) W3.heap.size W3 HB4.out (Nat.le_refl _) ?_; intro w5 HR5 hb5; have hrow := row_splice HR5.out (show nc ≤ 11 by omega); have c7 := hrow.cell (k := 7) (by omega); rw [HV7.out] at c7; have e7 := hrow.frozen 7; have HROW := Lib.hid hrow; have HB5 := Lib.hid hb5; clear hrow hb5 HR5 g0 g1 g2 g3 g4 g5 r0 r1 r2 r3 r4 r5 e0; obtain ⟨g0, g1, g2, g3, g4, g5, r0, r1, r2, r3, r4, r5, f0, f1⟩ := FA.out w5 HB5.out; have e0 := f0 2; have q0 := f1 0; have q1 := f1 1; have q2 := f1 2; have q3 := f1 3; have q4 := f1 4; have q5 := f1 5; clear f0 f1) | (go_at_call 31; refine (add_any _ _ _).mono ?_; rintro e w' ⟨rfl, rfl⟩))
        obtain ⟨W6, h6⟩ : ∃ W6, ((((((((w5.setCell ⟨W3.heap.size, 7, none⟩ (.int .i64 (W v7))).setCell ⟨w.heap.size, 2, none⟩ (.slice (some ⟨W3.heap.size, 0, none⟩) 11 11)).setCell ⟨w.heap.size + 1, 0, none⟩ (.slice ar nr cr')).setCell ⟨w.heap.size + 1, 1, none⟩ (.int .i64 pc)).setCell ⟨w.heap.size + 1, 2, none⟩ (.slice (some ⟨W3.heap.size, 0, none⟩) 11 11)).setCell ⟨w.heap.size + 1, 3, none⟩ (.bool hl)).setCell ⟨w.heap.size + 1, 4, none⟩ (.bool st)).setCell ⟨w.heap.size + 1, 5, none⟩ (.slice ao no co')) = W6 := ⟨_, rfl⟩
        rw [h6]
        obtain ⟨⟨k0, k1, k2, k3, k4, k5⟩, kk, kr, kb⟩ := six_end w W3 w5 (W v7) _ _ _ _ _ _ _ _ _ _ _ _ hs2 HB5.out r0 r1 r2 r3 r4 r5 W6 h6
        have hx : W v7 = W ((if 7 < nc then f 7 else 0) + max 0 n) := by rw [HV7.out]; congr 1; omega
        have hrw : (fun j => if j = 7 then W v7 else (fun k => if k < nc then f k else 0) j) = skF f nc n := by funext j; unfold skF; rw [← hx]
        have hrow := kr HROW.out
        rw [hrw] at hrow
        have hW0s : W0.heap.size = w.heap.size + 2 := by rw [← HW0.out]; simp
        have hbx : w.heap.size < W0.heap.size := by omega
        have hR3 : Rd W3 (w.heap.size + 2) ar nr xr := by
          have := (rd_of_own HoR.out HX1.out).below HSO.out
          rw [← HW3.out, ← hW0s]
          exact (this.low (p := ⟨w.heap.size, 0, none⟩) hbx _).low (p := ⟨w.heap.size, 5, none⟩) hbx _
        have hO3 : Rd W3 (w.heap.size + 2) ao no xo := by
          have := (rd_of_own HoO.out HX2.out).base HB1.out.size
          rw [← HW3.out, ← hW0s]
          exact (this.low (p := ⟨w.heap.size, 0, none⟩) hbx _).low (p := ⟨w.heap.size, 5, none⟩) hbx _
        have hM : max 11 nc = 11 := by omega
        refine bodyPost_ret (v := .agg #[.slice ar nr cr', .int .i64 pc, .slice (some ⟨W3.heap.size, 0, none⟩) 11 11, .bool hl, .bool st, .slice ao no co']) (by simp [results, Try.results16, go_sem, k0, k1, k2, k3, k4, k5]) rfl ?_
        rw [hM]
        exact ⟨ar, cr', ao, co', W3.heap.size, rfl, ⟨(hR3.keep kk).1, fun ad e => Nat.le_trans (by omega) (hR3.2 ad e)⟩, own_nil0 HoR.out, ⟨(hO3.keep kk).1, fun ad e => Nat.le_trans (by omega) (hO3.2 ad e)⟩, own_nil0 HoO.out, hrow, by omega, kb HBW.out⟩
      · have hz2 : 0 < n := by omega
        go_wp2_with (first | (at_make; go_must (refine wpList_make_zeros _ rfl (.tmp 17) (.tmp 17) 41 rfl 3 i0 Try.underlying41 Hi.out Hz0.out Hz1.out Hz2.out 11 11 rfl rfl rfl (by omega) ?_; intro w4 HR4 HG4; have HB4 := Lib.hid ((Below.refl W3.heap.size W3).grown HG4.out (Nat.le_refl _) (by simp)); clear g0 g1 g2 g3 g4 g5 r0 r1 r2 r3 r4 r5 e0; obtain ⟨g0, g1, g2, g3, g4, g5, r0, r1, r2, r3, r4, r5, f0, f1⟩ := FA.out w4 HB4.out; have e0 := f0 2; clear f0 f1)) | (with_reducible refine wpList_copy_splice rfl (.tmp 19) (.tmp 21) 41 41 rfl 3 Try.underlying41 Try.sizeI (some ⟨W3.heap.size, 0, none⟩) A 11 11 nc cap rfl rfl W3.heap.size 0 (zs0 11) 3 HR4.out (csL f nc) (by rw [csL_len]; exact (Nat.min_eq_left (by omega)).symm) (fun hp => ⟨rfl, ints_src (HCW.out.below HB4.out) hp⟩) (by rw [csL_len]; simp [zs0]; try omega) (csL_one _ _) W3.heap.size W3 HB4.out (Nat.le_refl _) ?_; intro w5 HR5 hb5; have hrow := row_splice HR5.out (show nc ≤ 11 by omega); have c7 := hrow.cell (k := 7) (by omega); rw [HV7.out] at c7; have e7 := hrow.frozen 7; have HROW := Lib.hid hrow; have HB5 := Lib.hid hb5; clear hrow hb5 HR5 g0 g1 g2 g3 g4 g5 r0 r1 r2 r3 r4 r5 e0; obtain ⟨g0, g1, g2, g3, g4, g5, r0, r1, r2, r3, r4, r5, f0, f1⟩ := FA.out w5 HB5.out; have e0 := f0 2; have q0 := f1 0; have q1 := f1 1; have q2 := f1 2; have q3 := f1 3; have q4 := f1 4; have q5 := f1 5; clear f0 f1) | (go_at_call 31; refine (add_any _ _ _).mono ?_; rintro e w' ⟨rfl, rfl⟩))
        obtain ⟨W6, h6⟩ : ∃ W6, ((((((((w5.setCell ⟨W3.heap.size, 7, none⟩ (.int .i64 (W (v7 + n)))).setCell ⟨w.heap.size, 2, none⟩ (.slice (some ⟨W3.heap.size, 0, none⟩) 11 11)).setCell ⟨w.heap.size + 1, 0, none⟩ (.slice ar nr cr')).setCell ⟨w.heap.size + 1, 1, none⟩ (.int .i64 pc)).setCell ⟨w.heap.size + 1, 2, none⟩ (.slice (some ⟨W3.heap.size, 0, none⟩) 11 11)).setCell ⟨w.heap.size + 1, 3, none⟩ (.bool hl)).setCell ⟨w.heap.size + 1, 4, none⟩ (.bool st)).setCell ⟨w.heap.size + 1, 5, none⟩ (.slice ao no co')) = W6 := ⟨_, rfl⟩
        rw [h6]
        obtain ⟨⟨k0, k1, k2, k3, k4, k5⟩, kk, kr, kb⟩ := six_end w W3 w5 (W (v7 + n)) _ _ _ _ _ _ _ _ _ _ _ _ hs2 HB5.out r0 r1 r2 r3 r4 r5 W6 h6
        have hx : W (v7 + n) = W ((if 7 < nc then f 7 else 0) + max 0 n) := by rw [HV7.out]; congr 1; omega
        have hrw : (fun j => if j = 7 then W (v7 + n) else (fun k => if k < nc then f k else 0) j) = skF f nc n := by funext j; unfold skF; rw [← hx]
        have hrow := kr HROW.out
        rw [hrw] at hrow
        have hW0s : W0.heap.size = w.heap.size + 2 := by rw [← HW0.out]; simp
        have hbx : w.heap.size < W0.heap.size := by omega
        have hR3 : Rd W3 (w.heap.size + 2) ar nr xr := by
          have := (rd_of_own HoR.out HX1.out).below HSO.out
          rw [← HW3.out, ← hW0s]
          exact (this.low (p := ⟨w.heap.size, 0, none⟩) hbx _).low (p := ⟨w.heap.size, 5, none⟩) hbx _
        have hO3 : Rd W3 (w.heap.size + 2) ao no xo := by
          have := (rd_of_own HoO.out HX2.out).base HB1.out.size
          rw [← HW3.out, ← hW0s]
          exact (this.low (p := ⟨w.heap.size, 0, none⟩) hbx _).low (p := ⟨w.heap.size, 5, none⟩) hbx _
        have hM : max 11 nc = 11 := by omega
        refine bodyPost_ret (v := .agg #[.slice ar nr cr', .int .i64 pc, .slice (some ⟨W3.heap.size, 0, none⟩) 11 11, .bool hl, .bool st, .slice ao no co']) (by simp [results, Try.results16, go_sem, k0, k1, k2, k3, k4, k5]) rfl ?_
        rw [hM]
        exact ⟨ar, cr', ao, co', W3.heap.size, rfl, ⟨(hR3.keep kk).1, fun ad e => Nat.le_trans (by omega) (hR3.2 ad e)⟩, own_nil0 HoR.out, ⟨(hO3.keep kk).1, fun ad e => Nat.le_trans (by omega) (hO3.2 ad e)⟩, own_nil0 HoO.out, hrow, by omega, kb HBW.out⟩
    · have hm2 : 11 < (nc : Int) := by omega
      by_cases hz : n ≤ 0
      · skip
        go_wp2_with (first | (at_make; go_must (refine wpList_make_zeros _ rfl (.tmp 17) (.tmp 17) 41 rfl 3 i0 Try.underlying41 Hi.out Hz0.out Hz1.out Hz2.out nc (nc : Int) rfl rfl rfl (by omega) ?_; intro w4 HR4 HG4; have HB4 := Lib.hid ((Below.refl W3.heap.size W3).grown HG4.out (Nat.le_refl _) (by simp)); clear g0 g1 g2 g3 g4 g5 r0 r1 r2 r3 r4 r5 e0; obtain ⟨g0, g1, g2, g3, g4, g5, r0, r1, r2, r3, r4, r5, f0, f1⟩ := FA.out w4 HB4.out; have e0 := f0 2; clear f0 f1)) | (with_reducible refine wpList_copy_splice rfl (.tmp 19) (.tmp 21) 41 41 rfl 3 Try.underlying41 Try.sizeI (some ⟨W3.heap.size, 0, none⟩) A nc nc nc cap rfl rfl W3.heap.size 0 (zs0 nc) 3 HR4.out (csL f nc) (by rw [csL_len]; exact (Nat.min_eq_left (by omega)).symm) (fun hp => ⟨rfl, ints_src (HCW.out.below HB4.out) hp⟩) (by rw [csL_len]; simp [zs0]; try omega) (csL_one _ _) W3.heap.size W3 HB4.out (Nat.le_refl _) ?_; intro w5 HR5 hb5; have hrow := row_splice HR5.out (show nc ≤ nc by omega); have c7 := hrow.cell (k := 7) (by omega); rw [HV7.out] at c7; have e7 := hrow.frozen 7; have HROW := Lib.hid hrow; have HB5 := Lib.hid hb5; clear hrow hb5 HR5 g0 g1 g2 g3 g4 g5 r0 r1 r2 r3 r4 r5 e0; obtain ⟨g0, g1, g2, g3, g4, g5, r0, r1, r2, r3, r4, r5, f0, f1⟩ := FA.out w5 HB5.out; have e0 := f0 2; have q0 := f1 0; have q1 := f1 1; have q2 := f1 2; have q3 := f1 3; have q4 := f1 4; have q5 := f1 5; clear f0 f1) | (go_at_call 31; refine (add_any _ _ _).mono ?_; rintro e w' ⟨rfl, rfl⟩))
        obtain ⟨W6, h6⟩ : ∃ W6, ((((((((w5.setCell ⟨W3.heap.size, 7, none⟩ (.int .i64 (W v7))).setCell ⟨w.heap.size, 2, none⟩ (.slice (some ⟨W3.heap.size, 0, none⟩) nc nc)).setCell ⟨w.heap.size + 1, 0, none⟩ (.slice ar nr cr')).setCell ⟨w.heap.size + 1, 1, none⟩ (.int .i64 pc)).setCell ⟨w.heap.size + 1, 2, none⟩ (.slice (some ⟨W3.heap.size, 0, none⟩) nc nc)).setCell ⟨w.heap.size + 1, 3, none⟩ (.bool hl)).setCell ⟨w.heap.size + 1, 4, none⟩ (.bool st)).setCell ⟨w.heap.size + 1, 5, none⟩ (.slice ao no co')) = W6 := ⟨_, rfl⟩
        rw [h6]
        obtain ⟨⟨k0, k1, k2, k3, k4, k5⟩, kk, kr, kb⟩ := six_end w W3 w5 (W v7) _ _ _ _ _ _ _ _ _ _ _ _ hs2 HB5.out r0 r1 r2 r3 r4 r5 W6 h6
        have hx : W v7 = W ((if 7 < nc then f 7 else 0) + max 0 n) := by rw [HV7.out]; congr 1; omega
        have hrw : (fun j => if j = 7 then W v7 else (fun k => if k < nc then f k else 0) j) = skF f nc n := by funext j; unfold skF; rw [← hx]
        have hrow := kr HROW.out
        rw [hrw] at hrow
        have hW0s : W0.heap.size = w.heap.size + 2 := by rw [← HW0.out]; simp
        have hbx : w.heap.size < W0.heap.size := by omega
        have hR3 : Rd W3 (w.heap.size + 2) ar nr xr := by
          have := (rd_of_own HoR.out HX1.out).below HSO.out
          rw [← HW3.out, ← hW0s]
          exact (this.low (p := ⟨w.heap.size, 0, none⟩) hbx _).low (p := ⟨w.heap.size, 5, none⟩) hbx _
        have hO3 : Rd W3 (w.heap.size + 2) ao no xo := by
          have := (rd_of_own HoO.out HX2.out).base HB1.out.size
          rw [← HW3.out, ← hW0s]
          exact (this.low (p := ⟨w.heap.size, 0, none⟩) hbx _).low (p := ⟨w.heap.size, 5, none⟩) hbx _
        have hM : max 11 nc = nc := by omega
        refine bodyPost_ret (v := .agg #[.slice ar nr cr', .int .i64 pc, .slice (some ⟨W3.heap.size, 0, none⟩) nc nc, .bool hl, .bool st, .slice ao no co']) (by simp [results, Try.results16, go_sem, k0, k1, k2, k3, k4, k5]) rfl ?_
        rw [hM]
        exact ⟨ar, cr', ao, co', W3.heap.size, rfl, ⟨(hR3.keep kk).1, fun ad e => Nat.le_trans (by omega) (hR3.2 ad e)⟩, own_nil0 HoR.out, ⟨(hO3.keep kk).1, fun ad e => Nat.le_trans (by omega) (hO3.2 ad e)⟩, own_nil0 HoO.out, hrow, by omega, kb HBW.out⟩
      · have hz2 : 0 < n := by omega
        go_wp2_with (first | (at_make; go_must (refine wpList_make_zeros _ rfl (.tmp 17) (.tmp 17) 41 rfl 3 i0 Try.underlying41 Hi.out Hz0.out Hz1.out Hz2.out nc (nc : Int) rfl rfl rfl (by omega) ?_; intro w4 HR4 HG4; have HB4 := Lib.hid ((Below.refl W3.heap.size W3).grown HG4.out (Nat.le_refl _) (by simp)); clear g0 g1 g2 g3 g4 g5 r0 r1 r2 r3 r4 r5 e0; obtain ⟨g0, g1, g2, g3, g4, g5, r0, r1, r2, r3, r4, r5, f0, f1⟩ := FA.out w4 HB4.out; have e0 := f0 2; clear f0 f1)) | (with_reducible refine wpList_copy_splice rfl (.tmp 19) (.tmp 21) 41 41 rfl 3 Try.underlying41 Try.sizeI (some ⟨W3.heap.size, 0, none⟩) A nc nc nc cap rfl rfl W3.heap.size 0 (zs0 nc) 3 HR4.out (csL f nc) (by rw [csL_len]; exact (Nat.min_eq_left (by omega)).symm) (fun hp => ⟨rfl, ints_src (HCW.out.below HB4.out) hp⟩) (by rw [csL_len]; simp [zs0]; try omega) (csL_one _ _) W3.heap.size W3 HB4.out (Nat.le_refl _) ?_; intro w5 HR5 hb5; have hrow := row_splice HR5.out (show nc ≤ nc by omega); have c7 := hrow.cell (k := 7) (by omega); rw [HV7.out] at c7; have e7 := hrow.frozen 7; have HROW := Lib.hid hrow; have HB5 := Lib.hid hb5; clear hrow hb5 HR5 g0 g1 g2 g3 g4 g5 r0 r1 r2 r3 r4 r5 e0; obtain ⟨g0, g1, g2, g3, g4, g5, r0, r1, r2, r3, r4, r5, f0, f1⟩ := FA.out w5 HB5.out; have e0 := f0 2; have q0 := f1 0; have q1 := f1 1; have q2 := f1 2; have q3 := f1 3; have q4 := f1 4; have q5 := f1 5; clear f0 f1) | (go_at_call 31; refine (add_any _ _ _).mono ?_; rintro e w' ⟨rfl, rfl⟩))
        obtain ⟨W6, h6⟩ : ∃ W6, ((((((((w5.setCell ⟨W3.heap.size, 7, none⟩ (.int .i64 (W (v7 + n)))).setCell ⟨w.heap.size, 2, none⟩ (.slice (some ⟨W3.heap.size, 0, none⟩) nc nc)).setCell ⟨w.heap.size + 1, 0, none⟩ (.slice ar nr cr')).setCell ⟨w.heap.size + 1, 1, none⟩ (.int .i64 pc)).setCell ⟨w.heap.size + 1, 2, none⟩ (.slice (some ⟨W3.heap.size, 0, none⟩) nc nc)).setCell ⟨w.heap.size + 1, 3, none⟩ (.bool hl)).setCell ⟨w.heap.size + 1, 4, none⟩ (.bool st)).setCell ⟨w.heap.size + 1, 5, none⟩ (.slice ao no co')) = W6 := ⟨_, rfl⟩
        rw [h6]
        obtain ⟨⟨k0, k1, k2, k3, k4, k5⟩, kk, kr, kb⟩ := six_end w W3 w5 (W (v7 + n)) _ _ _ _ _ _ _ _ _ _ _ _ hs2 HB5.out r0 r1 r2 r3 r4 r5 W6 h6
        have hx : W (v7 + n) = W ((if 7 < nc then f 7 else 0) + max 0 n) := by rw [HV7.out]; congr 1; omega
        have hrw : (fun j => if j = 7 then W (v7 + n) else (fun k => if k < nc then f k else 0) j) = skF f nc n := by funext j; unfold skF; rw [← hx]
        have hrow := kr HROW.out
        rw [hrw] at hrow
        have hW0s : W0.heap.size = w.heap.size + 2 := by rw [← HW0.out]; simp
        have hbx : w.heap.size < W0.heap.size := by omega
        have hR3 : Rd W3 (w.heap.size + 2) ar nr xr := by
          have := (rd_of_own HoR.out HX1.out).below HSO.out
          rw [← HW3.out, ← hW0s]
          exact (this.low (p := ⟨w.heap.size, 0, none⟩) hbx _).low (p := ⟨w.heap.size, 5, none⟩) hbx _
        have hO3 : Rd W3 (w.heap.size + 2) ao no xo := by
          have := (rd_of_own HoO.out HX2.out).base HB1.out.size
          rw [← HW3.out, ← hW0s]
          exact (this.low (p := ⟨w.heap.size, 0, none⟩) hbx _).low (p := ⟨w.heap.size, 5, none⟩) hbx _
        have hM : max 11 nc = nc := by omega
        refine bodyPost_ret (v := .agg #[.slice ar nr cr', .int .i64 pc, .slice (some ⟨W3.heap.size, 0, none⟩) nc nc, .bool hl, .bool st, .slice ao no co']) (by simp [results, Try.results16, go_sem, k0, k1, k2, k3, k4, k5]) rfl ?_
        rw [hM]
        exact ⟨ar, cr', ao, co', W3.heap.size, rfl, ⟨(hR3.keep kk).1, fun ad e => Nat.le_trans (by omega) (hR3.2 ad e)⟩, own_nil0 HoR.out, ⟨(hO3.keep kk).1, fun ad e => Nat.le_trans (by omega) (hO3.2 ad e)⟩, own_nil0 HoO.out, hrow, by omega, kb HBW.out⟩
end Go.Proofs.Ytdnmjhkgibaadaa
