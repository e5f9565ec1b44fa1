/- The reference's machine begins: a contract. -/
import Derived.Test.YtdnmjhkgibaadaaNew
namespace Go.Proofs.Ytdnmjhkgibaadaa
open Go.RowKit
attribute [local go_sem ↓] Go.wp_at_zero Go.wp_at_succ

theorem Try.size8 : (Try.prog.info? 5).map (·.size) = some 1 := by kernel_rfl
def z16 : Array Value := #[.int .i64 0, .int .i64 0, .int .i64 0, .int .i64 0, .int .i64 0, .int .i64 0, .int .i64 0, .int .i64 0, .int .i64 0, .int .i64 0, .int .i64 0, .int .i64 0, .int .i64 0, .int .i64 0, .int .i64 0, .int .i64 0]
def c11 : Array Value := #[.int .i64 4, .int .i64 0, .int .i64 0, .int .i64 0, .int .i64 0, .int .i64 0, .int .i64 0, .int .i64 0, .int .i64 0, .int .i64 0, .int .i64 0]
theorem Blk.there {w : World} {b t n : Nat} {g : Nat → Value} (h : Blk w b t n g) {o m : Nat} (hm : o + m ≤ n) : w.there b o m := fun j hj => ⟨by rw [h.cell (by omega)]; rfl, h.frozen _⟩
/-- The cells vs laid from o on. -/
def lay (g : Nat → Value) : Nat → List Value → Nat → Value
  | _, [] => g
  | o, v :: r => lay (fun j => if j = o then v else g j) (o + 1) r
theorem Blk.puts {b t n : Nat} : ∀ {w : World} {g : Nat → Value}, Blk w b t n g → ∀ (vs : List Value) (o : Nat), Blk (w.setCells b o vs) b t n (lay g o vs)
  | _, _, h, [], _ => h
  | _, _, h, v :: r, o => Blk.puts (h.put o v) r (o + 1)
theorem below_setCells {B b : Nat} {a : World} : ∀ {w : World}, Below B a w → B ≤ b → ∀ (vs : List Value) (o : Nat), Below B a (w.setCells b o vs)
  | _, h, _, [], _ => h
  | _, h, hB, v :: r, o => below_setCells (h.setCell (p := ⟨b, o, none⟩) hB v) hB r (o + 1)
theorem mem_setCells {bm pm pb : Nat} : ∀ {w : World}, Mem66 w pm pb → pm ≠ bm → pb ≠ bm → ∀ (vs : List Value) (o : Nat), Mem66 (w.setCells bm o vs) pm pb
  | _, h, _, _, [], _ => h
  | _, h, n1, n2, v :: r, o => mem_setCells (mem_set h n1 n2 o v) n1 n2 r (o + 1)
theorem mem_row {w : World} {pb t : Nat} (h : w.heap[pb]? = some (.cells (splice (zs8 4096) 0 [.int .u8 0, .int .u8 0, .int .u8 0, .int .u8 66]).toArray t (0, 0))) : w.cell? ⟨pb, 0, none⟩ = some (.int .u8 0) ∧ w.cell? ⟨pb, 1, none⟩ = some (.int .u8 0) ∧ w.cell? ⟨pb, 2, none⟩ = some (.int .u8 0) ∧ w.cell? ⟨pb, 3, none⟩ = some (.int .u8 66) := by
  have hc : ∀ k, w.cell? ⟨pb, k, none⟩ = (splice (zs8 4096) 0 [.int .u8 0, .int .u8 0, .int .u8 0, .int .u8 66])[k]? := fun k => by simp [World.cell?, h]
  refine ⟨?_, ?_, ?_, ?_⟩ <;> rw [hc] <;> rfl
/-- What begin leaves. -/
def BgP (w : World) (B bm : Nat) (g0 : Nat → Value) (e : Ending) (w' : World) : Prop :=
  e = .returned (.tuple #[]) ∧ ∃ (pm pb : Nat) (g : Nat → Value), Blk w' bm 38 39 g ∧ (∀ k, k < 17 → g k = .int .i64 0) ∧ g 17 = .int .i64 4 ∧ (∀ k, 18 ≤ k → k < 28 → g k = .int .i64 0) ∧ g 28 = .pointer (some ⟨pm, 0, none⟩) ∧ g 29 = .slice none 0 0 ∧ g 34 = .bool false ∧ g 35 = .bool false ∧ (g 30 = g0 30 ∧ g 31 = g0 31 ∧ g 32 = g0 32 ∧ g 33 = g0 33) ∧ Mem66 w' pm pb ∧ pm ≠ bm ∧ pb ≠ bm ∧ Below B w w'
theorem keepB {W w' : World} {bm pm pb : Nat} {a b c : Value} (hS : W.cell? ⟨bm, 28, none⟩ = some a ∧ W.cell? ⟨pm, 0, none⟩ = some b ∧ W.cell? ⟨bm, 37, none⟩ = some c) (ho : OnlyBlk W w' pb) (n1 : bm ≠ pb) (n2 : pm ≠ pb) : w'.cell? ⟨bm, 28, none⟩ = some a ∧ w'.cell? ⟨pm, 0, none⟩ = some b ∧ w'.cell? ⟨bm, 37, none⟩ = some c :=
  ⟨ho.cell n1 hS.1, ho.cell n2 hS.2.1, ho.cell n1 hS.2.2⟩
set_option maxRecDepth 100000 in
set_option maxHeartbeats 8000000 in
theorem begin_any (w : World) (B bm : Nat) (g0 : Nat → Value) (ai : Addr) (ci : Nat) (h : Blk w bm 38 39 g0) (h38 : g0 38 = .int .i64 1) (h36 : g0 36 = .int .i64 0) (h37 : g0 37 = .slice (some ai) 4 ci) (hs : Src w (some ai) 4 [.int .u8 0, .int .u8 0, .int .u8 0, .int .u8 66]) (hai : ai.block ≠ bm) (hB : B ≤ bm) (hBw : B ≤ w.heap.size) :
    Calls Try.prog 21 #[.pointer (some ⟨bm, 0, none⟩)] w (BgP w B bm g0) := by
  have c38 : w.cell? ⟨bm, 38, none⟩ = some (.int .i64 1) := by rw [h.cell (by omega), h38]
  have HK := Lib.hid h
  have HS := Lib.hid hs
  have H36 := Lib.hid h36
  have H37 := Lib.hid h37
  clear h h38 h36 h37 hs
  go_enter Try.func21, Try.ntmps21
  go_wp2_with fail
  refine (newMem1 _).mono ?_
  rintro e w1 ⟨pm, pb, rfl, hpb, hpm, hrow, hcell, hb1⟩
  have HK1 := Lib.hid (HK.out.below hb1 HK.out.lt)
  have HS1 := Lib.hid (HS.out.below hb1)
  have Hb1 := Lib.hid (hb1.mono hBw)
  have HROW := Lib.hid hrow
  have hbl : bm < w.heap.size := HK.out.lt
  have n1 : bm ≠ pb := by omega
  have n2 : bm ≠ pm := by omega
  have n3 : pm ≠ pb := by omega
  have n4 : pb ≠ bm := by omega
  have n5 : pm ≠ bm := by omega
  have c28 := HK1.out.cell (k := 28) (by omega)
  have f28 := HK1.out.frozen 28
  have HCE := Lib.hid hcell
  clear hb1 hrow hcell HK c38
  go_wp2_with fail
  obtain ⟨W2, hW2⟩ : ∃ W2, (w1.setCell ⟨bm, 28, none⟩ (.pointer (some ⟨pm, 0, none⟩))) = W2 := ⟨_, rfl⟩
  have k2 := HK1.out.put 28 (.pointer (some ⟨pm, 0, none⟩))
  have s2 := HS1.out
  have hb2 := Hb1.out.setCell (p := ⟨bm, 28, none⟩) hB (.pointer (some ⟨pm, 0, none⟩))
  have r2 : W2.heap[pb]? = some (.cells (zs8 4096).toArray 5 (0, 0)) := by rw [← hW2, Below.heap_setCell _ _ _ _ n4]; exact HROW.out
  have c2 : W2.cell? ⟨pm, 0, none⟩ = some (.slice (some ⟨pb, 0, none⟩) 4096 4096) := by rw [← hW2, World.cell?_setCell_other _ _ _ _ (by intro e; injection e; omega)]; exact HCE.out
  have q2 : Src W2 (some ai) 4 [.int .u8 0, .int .u8 0, .int .u8 0, .int .u8 66] := by
    refine ⟨s2.1, s2.2.1, s2.2.2.1, fun ad e j u hj => ?_⟩
    have hc := s2.2.2.2 ad e j u hj
    injection e with e
    subst e
    rw [← hW2, World.cell?_setCell_other _ _ _ _ (fun e => hai (by
      have hb : bm = (ai.add j).block := by rw [← e]
      have : (ai.add j).block = ai.block := by unfold Addr.add; split <;> rfl
      omega))]
    exact hc
  rw [hW2] at k2 hb2
  rw [hW2]
  have HK2 := Lib.hid k2
  have HB2 := Lib.hid hb2
  have HQ2 := Lib.hid q2
  have HR2 := Lib.hid r2
  have hS0 : W2.drew.cell? ⟨bm, 28, none⟩ = some (.pointer (some ⟨pm, 0, none⟩)) ∧ W2.drew.cell? ⟨pm, 0, none⟩ = some (.slice (some ⟨pb, 0, none⟩) 4096 4096) ∧ W2.drew.cell? ⟨bm, 37, none⟩ = some (.slice (some ai) 4 ci) := ⟨HK2.out.cell (k := 28) (by omega), c2, by
    show W2.cell? _ = _
    rw [HK2.out.cell (k := 37) (by omega), if_neg (by omega), H37.out]⟩
  have HS0 := Lib.hid hS0
  have HC2 := Lib.hid c2
  clear k2 s2 hb2 r2 c2 q2 hW2 hS0 c28 f28 HK1 HS1 Hb1 HROW HCE
  go_region_held3 (fun w' => w'.cell? ⟨bm, 28, none⟩ = some (.pointer (some ⟨pm, 0, none⟩)) ∧ w'.cell? ⟨pm, 0, none⟩ = some (.slice (some ⟨pb, 0, none⟩) 4096 4096) ∧ w'.cell? ⟨bm, 37, none⟩ = some (.slice (some ai) 4 ci)) (first | (with_reducible exact HS0.out) | (with_reducible assumption) | (exact keepB (by assumption) HO3.out n1 n3))
    (first | (refine step_copy_keep (by rfl) (.tmp 16) (.tmp 21) 25 25 (by rfl) 5 Try.underlying25 Try.size8 pb 0 4096 4096 ai 4 ci (by rfl) (by rfl) (zs8 4096) 5 (by exact HR2.out) [.int .u8 0, .int .u8 0, .int .u8 0, .int .u8 66] (by rfl) (by exact HQ2.out.2.2.2 ai rfl) (by rw [zs8_len]; simp) (by exact HQ2.out.2.1) ?_; intro w3 HR3 HO3))
  have HK3 := Lib.hid (HK2.out.keep (HO3.out.2.2.2.2 bm n1))
  have HB3 := Lib.hid (HB2.out.drew.trans (HO3.out.below (B := B) (by omega)))
  have HM3 : Hid (Mem66 w3 pm pb) := Lib.hid ⟨HO3.out.cell n3 HC2.out, mem_row HR3.out⟩
  clear HO3 HR3 HK2 HB2 HQ2 HR2 HS0 HC2
  have c0 := HK3.out.cell (k := 0) (by omega)
  have f0 := HK3.out.frozen 0
  have c1 := HK3.out.cell (k := 1) (by omega)
  have f1 := HK3.out.frozen 1
  have c2 := HK3.out.cell (k := 2) (by omega)
  have f2 := HK3.out.frozen 2
  have c3 := HK3.out.cell (k := 3) (by omega)
  have f3 := HK3.out.frozen 3
  have c4 := HK3.out.cell (k := 4) (by omega)
  have f4 := HK3.out.frozen 4
  have c5 := HK3.out.cell (k := 5) (by omega)
  have f5 := HK3.out.frozen 5
  have c6 := HK3.out.cell (k := 6) (by omega)
  have f6 := HK3.out.frozen 6
  have c7 := HK3.out.cell (k := 7) (by omega)
  have f7 := HK3.out.frozen 7
  have c8 := HK3.out.cell (k := 8) (by omega)
  have f8 := HK3.out.frozen 8
  have c9 := HK3.out.cell (k := 9) (by omega)
  have f9 := HK3.out.frozen 9
  have c10 := HK3.out.cell (k := 10) (by omega)
  have f10 := HK3.out.frozen 10
  have c11 := HK3.out.cell (k := 11) (by omega)
  have f11 := HK3.out.frozen 11
  have c12 := HK3.out.cell (k := 12) (by omega)
  have f12 := HK3.out.frozen 12
  have c13 := HK3.out.cell (k := 13) (by omega)
  have f13 := HK3.out.frozen 13
  have c14 := HK3.out.cell (k := 14) (by omega)
  have f14 := HK3.out.frozen 14
  have c15 := HK3.out.cell (k := 15) (by omega)
  have f15 := HK3.out.frozen 15
  have c16 := HK3.out.cell (k := 16) (by omega)
  have f16 := HK3.out.frozen 16
  have c17 := HK3.out.cell (k := 17) (by omega)
  have f17 := HK3.out.frozen 17
  have c18 := HK3.out.cell (k := 18) (by omega)
  have f18 := HK3.out.frozen 18
  have c19 := HK3.out.cell (k := 19) (by omega)
  have f19 := HK3.out.frozen 19
  have c20 := HK3.out.cell (k := 20) (by omega)
  have f20 := HK3.out.frozen 20
  have c21 := HK3.out.cell (k := 21) (by omega)
  have f21 := HK3.out.frozen 21
  have c22 := HK3.out.cell (k := 22) (by omega)
  have f22 := HK3.out.frozen 22
  have c23 := HK3.out.cell (k := 23) (by omega)
  have f23 := HK3.out.frozen 23
  have c24 := HK3.out.cell (k := 24) (by omega)
  have f24 := HK3.out.frozen 24
  have c25 := HK3.out.cell (k := 25) (by omega)
  have f25 := HK3.out.frozen 25
  have c26 := HK3.out.cell (k := 26) (by omega)
  have f26 := HK3.out.frozen 26
  have c27 := HK3.out.cell (k := 27) (by omega)
  have f27 := HK3.out.frozen 27
  have c29 := HK3.out.cell (k := 29) (by omega)
  have f29 := HK3.out.frozen 29
  have c34 := HK3.out.cell (k := 34) (by omega)
  have f34 := HK3.out.frozen 34
  have c35 := HK3.out.cell (k := 35) (by omega)
  have f35 := HK3.out.frozen 35
  have c36 : w3.cell? ⟨bm, 36, none⟩ = some (.int .i64 0) := (HK3.out.cell (k := 36) (by omega)).trans (by show some (g0 36) = _; rw [H36.out])
  have hW0 : W 0 = 0 := by decide
  go_wp2_with (go_at_call 19; refine (refW_any _ _).mono ?_; rintro e w' ⟨rfl, rfl⟩; rw [hW0])
  go_end0
  obtain ⟨W9, hW9⟩ : ∃ W9, (((((((((((((((((((((((((((((((w3.setCell ⟨bm, 0, none⟩ (.int .i64 0)).setCell ⟨bm, 1, none⟩ (.int .i64 0)).setCell ⟨bm, 2, none⟩ (.int .i64 0)).setCell ⟨bm, 3, none⟩ (.int .i64 0)).setCell ⟨bm, 4, none⟩ (.int .i64 0)).setCell ⟨bm, 5, none⟩ (.int .i64 0)).setCell ⟨bm, 6, none⟩ (.int .i64 0)).setCell ⟨bm, 7, none⟩ (.int .i64 0)).setCell ⟨bm, 8, none⟩ (.int .i64 0)).setCell ⟨bm, 9, none⟩ (.int .i64 0)).setCell ⟨bm, 10, none⟩ (.int .i64 0)).setCell ⟨bm, 11, none⟩ (.int .i64 0)).setCell ⟨bm, 12, none⟩ (.int .i64 0)).setCell ⟨bm, 13, none⟩ (.int .i64 0)).setCell ⟨bm, 14, none⟩ (.int .i64 0)).setCell ⟨bm, 15, none⟩ (.int .i64 0)).setCell ⟨bm, 17, none⟩ (.int .i64 4)).setCell ⟨bm, 18, none⟩ (.int .i64 0)).setCell ⟨bm, 19, none⟩ (.int .i64 0)).setCell ⟨bm, 20, none⟩ (.int .i64 0)).setCell ⟨bm, 21, none⟩ (.int .i64 0)).setCell ⟨bm, 22, none⟩ (.int .i64 0)).setCell ⟨bm, 23, none⟩ (.int .i64 0)).setCell ⟨bm, 24, none⟩ (.int .i64 0)).setCell ⟨bm, 25, none⟩ (.int .i64 0)).setCell ⟨bm, 26, none⟩ (.int .i64 0)).setCell ⟨bm, 27, none⟩ (.int .i64 0)).setCell ⟨bm, 16, none⟩ (.int .i64 0)).setCell ⟨bm, 29, none⟩ (.slice none 0 0)).setCell ⟨bm, 34, none⟩ (.bool false)).setCell ⟨bm, 35, none⟩ (.bool false)) = W9 := ⟨_, rfl⟩
  have hk := (((((((((((((((((((((((((((((((HK3.out.put 0 (.int .i64 0)).put 1 (.int .i64 0)).put 2 (.int .i64 0)).put 3 (.int .i64 0)).put 4 (.int .i64 0)).put 5 (.int .i64 0)).put 6 (.int .i64 0)).put 7 (.int .i64 0)).put 8 (.int .i64 0)).put 9 (.int .i64 0)).put 10 (.int .i64 0)).put 11 (.int .i64 0)).put 12 (.int .i64 0)).put 13 (.int .i64 0)).put 14 (.int .i64 0)).put 15 (.int .i64 0)).put 17 (.int .i64 4)).put 18 (.int .i64 0)).put 19 (.int .i64 0)).put 20 (.int .i64 0)).put 21 (.int .i64 0)).put 22 (.int .i64 0)).put 23 (.int .i64 0)).put 24 (.int .i64 0)).put 25 (.int .i64 0)).put 26 (.int .i64 0)).put 27 (.int .i64 0)).put 16 (.int .i64 0)).put 29 (.slice none 0 0)).put 34 (.bool false)).put 35 (.bool false))
  have hm := (mem_set (mem_set (mem_set (mem_set (mem_set (mem_set (mem_set (mem_set (mem_set (mem_set (mem_set (mem_set (mem_set (mem_set (mem_set (mem_set (mem_set (mem_set (mem_set (mem_set (mem_set (mem_set (mem_set (mem_set (mem_set (mem_set (mem_set (mem_set (mem_set (mem_set (mem_set HM3.out n5 n4 0 (.int .i64 0)) n5 n4 1 (.int .i64 0)) n5 n4 2 (.int .i64 0)) n5 n4 3 (.int .i64 0)) n5 n4 4 (.int .i64 0)) n5 n4 5 (.int .i64 0)) n5 n4 6 (.int .i64 0)) n5 n4 7 (.int .i64 0)) n5 n4 8 (.int .i64 0)) n5 n4 9 (.int .i64 0)) n5 n4 10 (.int .i64 0)) n5 n4 11 (.int .i64 0)) n5 n4 12 (.int .i64 0)) n5 n4 13 (.int .i64 0)) n5 n4 14 (.int .i64 0)) n5 n4 15 (.int .i64 0)) n5 n4 17 (.int .i64 4)) n5 n4 18 (.int .i64 0)) n5 n4 19 (.int .i64 0)) n5 n4 20 (.int .i64 0)) n5 n4 21 (.int .i64 0)) n5 n4 22 (.int .i64 0)) n5 n4 23 (.int .i64 0)) n5 n4 24 (.int .i64 0)) n5 n4 25 (.int .i64 0)) n5 n4 26 (.int .i64 0)) n5 n4 27 (.int .i64 0)) n5 n4 16 (.int .i64 0)) n5 n4 29 (.slice none 0 0)) n5 n4 34 (.bool false)) n5 n4 35 (.bool false))
  have hb := (((((((((((((((((((((((((((((((HB3.out.setCell (p := ⟨bm, 0, none⟩) hB (.int .i64 0)).setCell (p := ⟨bm, 1, none⟩) hB (.int .i64 0)).setCell (p := ⟨bm, 2, none⟩) hB (.int .i64 0)).setCell (p := ⟨bm, 3, none⟩) hB (.int .i64 0)).setCell (p := ⟨bm, 4, none⟩) hB (.int .i64 0)).setCell (p := ⟨bm, 5, none⟩) hB (.int .i64 0)).setCell (p := ⟨bm, 6, none⟩) hB (.int .i64 0)).setCell (p := ⟨bm, 7, none⟩) hB (.int .i64 0)).setCell (p := ⟨bm, 8, none⟩) hB (.int .i64 0)).setCell (p := ⟨bm, 9, none⟩) hB (.int .i64 0)).setCell (p := ⟨bm, 10, none⟩) hB (.int .i64 0)).setCell (p := ⟨bm, 11, none⟩) hB (.int .i64 0)).setCell (p := ⟨bm, 12, none⟩) hB (.int .i64 0)).setCell (p := ⟨bm, 13, none⟩) hB (.int .i64 0)).setCell (p := ⟨bm, 14, none⟩) hB (.int .i64 0)).setCell (p := ⟨bm, 15, none⟩) hB (.int .i64 0)).setCell (p := ⟨bm, 17, none⟩) hB (.int .i64 4)).setCell (p := ⟨bm, 18, none⟩) hB (.int .i64 0)).setCell (p := ⟨bm, 19, none⟩) hB (.int .i64 0)).setCell (p := ⟨bm, 20, none⟩) hB (.int .i64 0)).setCell (p := ⟨bm, 21, none⟩) hB (.int .i64 0)).setCell (p := ⟨bm, 22, none⟩) hB (.int .i64 0)).setCell (p := ⟨bm, 23, none⟩) hB (.int .i64 0)).setCell (p := ⟨bm, 24, none⟩) hB (.int .i64 0)).setCell (p := ⟨bm, 25, none⟩) hB (.int .i64 0)).setCell (p := ⟨bm, 26, none⟩) hB (.int .i64 0)).setCell (p := ⟨bm, 27, none⟩) hB (.int .i64 0)).setCell (p := ⟨bm, 16, none⟩) hB (.int .i64 0)).setCell (p := ⟨bm, 29, none⟩) hB (.slice none 0 0)).setCell (p := ⟨bm, 34, none⟩) hB (.bool false)).setCell (p := ⟨bm, 35, none⟩) hB (.bool false))
  rw [hW9] at hk hm hb
  rw [hW9]
  exact ⟨rfl, pm, pb, _, hk, fun k hk' => by rcases (show k = 0 ∨ k = 1 ∨ k = 2 ∨ k = 3 ∨ k = 4 ∨ k = 5 ∨ k = 6 ∨ k = 7 ∨ k = 8 ∨ k = 9 ∨ k = 10 ∨ k = 11 ∨ k = 12 ∨ k = 13 ∨ k = 14 ∨ k = 15 ∨ k = 16 by omega) with rfl | rfl | rfl | rfl | rfl | rfl | rfl | rfl | rfl | rfl | rfl | rfl | rfl | rfl | rfl | rfl | rfl <;> rfl, rfl, fun k h1 h2 => by rcases (show k = 18 ∨ k = 19 ∨ k = 20 ∨ k = 21 ∨ k = 22 ∨ k = 23 ∨ k = 24 ∨ k = 25 ∨ k = 26 ∨ k = 27 by omega) with rfl | rfl | rfl | rfl | rfl | rfl | rfl | rfl | rfl | rfl <;> rfl, rfl, rfl, rfl, rfl, ⟨rfl, rfl, rfl, rfl⟩, hm, n5, n4, hb⟩
end Go.Proofs.Ytdnmjhkgibaadaa
