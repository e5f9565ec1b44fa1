/- Proved: the Go law 'trunnionlaw9.CpuPairs' returns true for every input and leaves its arguments as they were (the given statement Rows.CpuPairsSaid). No conditions. The frame round the walk was written by the kit's proof-skeleton.mjs. -/
import Derived.Test.YtodkenbkogfefaaRows
import Derived.Test.YtodkenbkogfefaaCpuAcc
import Derived.WalkKit
import Derived.ProofKit
import Derived.OpenShut
import Derived.ShutString
namespace Go.Proofs.Ytodkenbkogfefaa.cpuPairs
open Go.ChangeShapes Go.WideShapes Go.ChangeAt Go.RowKit
open Go.ChangeMaps (open_string shut_string)
set_option linter.unusedVariables false

theorem own : ownKnob Try.prog.godebug = none := by kernel_rfl

theorem lists (k : Nat) (h : k < 8) : ([1, 3, 4, 5, 6, 7, 8, 10] : List Int).getD k 0 = baseI (([16, 17, 18, 19, 20, 21, 22, 24] : List Int).getD k 0) ∧ baseI (([1, 3, 4, 5, 6, 7, 8, 10] : List Int).getD k 0) = ([1, 3, 4, 5, 6, 7, 8, 10] : List Int).getD k 0 ∧ ([1, 3, 4, 5, 6, 7, 8, 10] : List Int).getD k 0 ≠ 0 := by
  rcases (show k = 0 ∨ k = 1 ∨ k = 2 ∨ k = 3 ∨ k = 4 ∨ k = 5 ∨ k = 6 ∨ k = 7 by omega) with rfl | rfl | rfl | rfl | rfl | rfl | rfl | rfl <;> decide
theorem quot (a b : Int) (h : W b ≠ 0) : W (W (qdiv a b * b) + rrem a b) = W a := by
  unfold qdiv rrem
  rw [if_neg h, if_neg h]
  have e1 : W (W a / W b * b) = W (W b * (W a / W b)) := by rw [Int.mul_comm, W_mul_l]
  rw [e1, show W (W (W b * (W a / W b)) + W a % W b) = W (W b * (W a / W b) + W a % W b) from by unfold W; omega, Int.mul_ediv_add_emod, W_W]
theorem walk (a0 : Int) (a1 : Int) (w0 : (Lit.int .i64 a0).wf = true) (w1 : (Lit.int .i64 a1).wf = true) (w : World) :
    Calls Try.prog 4 #[.int .i64 a0, .int .i64 a1] w fun e w' => e = .returned (.bool true) ∧ Below w.heap.size w w' := by
  clear w0 w1
  have c12 : aluV 12 a0 a1 = qdiv a0 a1 := rfl
  have c13 : aluV 13 a0 a1 = rrem a0 a1 := rfl
  have c9 : aluV 9 (qdiv a0 a1) a1 = W (qdiv a0 a1 * a1) := rfl
  have c1 : aluV 1 (W (qdiv a0 a1 * a1)) (rrem a0 a1) = W (W (qdiv a0 a1 * a1) + rrem a0 a1) := rfl
  go_enter Try.func4, Try.ntmps4
  go_wp2_with fail
  refine (alive9 _).mono ?_
  rintro e w1 ⟨rfl, hb1⟩
  go_wp2_with fail
  have hb2 : Below w.heap.size w ((w1.alloc (Obj.cells #[.int .i64 1, .int .i64 3, .int .i64 4, .int .i64 5, .int .i64 6, .int .i64 7, .int .i64 8, .int .i64 10] 3)).alloc (Obj.cells #[.int .i64 16, .int .i64 17, .int .i64 18, .int .i64 19, .int .i64 20, .int .i64 21, .int .i64 22, .int .i64 24] 3)) :=
    (hb1.alloc hb1.size _).alloc (Nat.le_trans hb1.size (by simp)) _
  have hcR : ∀ k, k < 8 → ((w1.alloc (Obj.cells #[.int .i64 1, .int .i64 3, .int .i64 4, .int .i64 5, .int .i64 6, .int .i64 7, .int .i64 8, .int .i64 10] 3)).alloc (Obj.cells #[.int .i64 16, .int .i64 17, .int .i64 18, .int .i64 19, .int .i64 20, .int .i64 21, .int .i64 22, .int .i64 24] 3)).cell? ⟨w1.heap.size, k, none⟩ = some (.int .i64 (([1, 3, 4, 5, 6, 7, 8, 10] : List Int).getD k 0)) := by
    intro k hk
    rw [World.cell?_alloc2_first]
    rcases (show k = 0 ∨ k = 1 ∨ k = 2 ∨ k = 3 ∨ k = 4 ∨ k = 5 ∨ k = 6 ∨ k = 7 by omega) with rfl | rfl | rfl | rfl | rfl | rfl | rfl | rfl <;> rfl
  have hcI : ∀ k, k < 8 → ((w1.alloc (Obj.cells #[.int .i64 1, .int .i64 3, .int .i64 4, .int .i64 5, .int .i64 6, .int .i64 7, .int .i64 8, .int .i64 10] 3)).alloc (Obj.cells #[.int .i64 16, .int .i64 17, .int .i64 18, .int .i64 19, .int .i64 20, .int .i64 21, .int .i64 22, .int .i64 24] 3)).cell? ⟨w1.heap.size + 1, k, none⟩ = some (.int .i64 (([16, 17, 18, 19, 20, 21, 22, 24] : List Int).getD k 0)) := by
    intro k hk
    rw [World.cell?_alloc_at _ _ _ _ (by simp)]
    rcases (show k = 0 ∨ k = 1 ∨ k = 2 ∨ k = 3 ∨ k = 4 ∨ k = 5 ∨ k = 6 ∨ k = 7 by omega) with rfl | rfl | rfl | rfl | rfl | rfl | rfl | rfl <;> rfl
  have hsz : w1.heap.size + 2 ≤ ((w1.alloc (Obj.cells #[.int .i64 1, .int .i64 3, .int .i64 4, .int .i64 5, .int .i64 6, .int .i64 7, .int .i64 8, .int .i64 10] 3)).alloc (Obj.cells #[.int .i64 16, .int .i64 17, .int .i64 18, .int .i64 19, .int .i64 20, .int .i64 21, .int .i64 22, .int .i64 24] 3)).heap.size := by simp
  have HB := Lib.hid hb2
  have HR := Lib.hid hcR
  have HI := Lib.hid hcI
  have HS := Lib.hid hsz
  clear hb1 hb2 hcR hcI hsz
  generalize ((w1.alloc (Obj.cells #[.int .i64 1, .int .i64 3, .int .i64 4, .int .i64 5, .int .i64 6, .int .i64 7, .int .i64 8, .int .i64 10] 3)).alloc (Obj.cells #[.int .i64 16, .int .i64 17, .int .i64 18, .int .i64 19, .int .i64 20, .int .i64 21, .int .i64 22, .int .i64 24] 3)) = w2 at *
  go_loopw [8] (fun i wr => ∃ k : Nat, k ≤ 8 ∧ i = .int .i64 k ∧ Below w2.heap.size w2 wr) (fun i _ => 8 - (intOf i).toNat)
  case atStart => exact ⟨0, by omega, rfl, Below.refl _ _⟩
  case round =>
    obtain ⟨k, hk, rfl, hbr⟩ := hrel
    by_cases hlt : k < 8
    · have cR : wr.cell? ⟨w1.heap.size, k, none⟩ = some (.int .i64 (([1, 3, 4, 5, 6, 7, 8, 10] : List Int).getD k 0)) := by
        rw [hbr.cell (by have := HS.out; show w1.heap.size < _; omega)]; exact HR.out k hlt
      have cI : wr.cell? ⟨w1.heap.size + 1, k, none⟩ = some (.int .i64 (([16, 17, 18, 19, 20, 21, 22, 24] : List Int).getD k 0)) := by
        rw [hbr.cell (by have := HS.out; show w1.heap.size + 1 < _; omega)]; exact HI.out k hlt
      obtain ⟨l1, l2, l3⟩ := lists k hlt
      generalize ([1, 3, 4, 5, 6, 7, 8, 10] : List Int).getD k 0 = r at *
      generalize ([16, 17, 18, 19, 20, 21, 22, 24] : List Int).getD k 0 = i at *
      have e1 : aluV i a0 a1 = aluV r a0 a1 := by unfold aluV; rw [l2, ← l1]
      have e2 : aluB i = true := by unfold aluB; rw [← l1]; simp [l3]
      have e3 : aluB r = true := by unfold aluB; rw [l2]; simp [l3]
      have HBR := Lib.hid hbr
      clear hbr l1 l2 l3
      go_wp2_with fail
      refine (alu_any _ _ _ _).mono ?_
      rintro e w3 ⟨rfl, hb3⟩
      have cI' : w3.cell? ⟨w1.heap.size + 1, k, none⟩ = some (.int .i64 i) := by
        rw [hb3.cell (by have := HS.out; have := HBR.out.size; show w1.heap.size + 1 < _; omega)]; exact cI
      have HB3 := Lib.hid hb3
      clear hb3
      go_wp2_with fail
      refine (alu_any _ _ _ _).mono ?_
      rintro e w4 ⟨rfl, hb4⟩
      have HB4 := Lib.hid hb4
      clear hb4
      go_wp2_with fail
      go_roundw
      case rel => exact ⟨k + 1, by omega, by go_num, btrans (btrans HBR.out HB3.out) HB4.out⟩
      case measure => simp [intOf]; omega
    · have HBR := Lib.hid hbr
      clear hbr
      go_wp2_with fail
      refine (alu_any _ _ _ _).mono ?_
      rintro e w3 ⟨rfl, hb3⟩
      have HB3 := Lib.hid hb3
      clear hb3
      go_wp2_with fail
      refine (alu_any _ _ _ _).mono ?_
      rintro e w4 ⟨rfl, hb4⟩
      have HB4 := Lib.hid hb4
      clear hb4
      go_wp2_with fail
      refine (alu_any _ _ _ _).mono ?_
      rintro e w5 ⟨rfl, hb5⟩
      have HB5 := Lib.hid hb5
      clear hb5
      go_wp2_with fail
      refine (alu_any _ _ _ _).mono ?_
      rintro e w6 ⟨rfl, hb6⟩
      have HB6 := Lib.hid (HB.out.trans ((btrans (btrans (btrans (btrans HBR.out HB3.out) HB4.out) HB5.out) hb6).mono HB.out.size))
      clear hb6 HB HR HI HS HBR HB3 HB4 HB5
      by_cases h : W a1 = 0
      · have h1 : (W a1 == 0) = true := by simp [h]
        clear h
        go_wp2_with (first | (go_at_call 17; refine (refW_any _ _).mono ?_; rintro e w' ⟨rfl, rfl⟩))
        go_ret
        exact ⟨rfl, HB6.out⟩
      · have h1 : (W a1 == 0) = false := by simp [h]
        have h2 := quot a0 a1 h
        clear h
        go_wp2_with (first | (go_at_call 17; refine (refW_any _ _).mono ?_; rintro e w' ⟨rfl, rfl⟩))
        go_ret
        exact ⟨rfl, HB6.out⟩

set_option maxRecDepth 100000 in
theorem lifted (os : Os) (started : os.Started) (H : Type) (enc : TypeId × Value → H) :
    ReturnsInHanded {} Try.checked os 4 .any (Rows.cpuPairsSpec.pre6 enc Try.prog Try.f4 Rows.cpuPairsRow.domain false) (Rows.cpuPairsSpec.post enc Try.prog Try.f4 false true false false) := by
  refine returnsInHanded_of_change (C := Try.checked) own started (by kernel_rfl) Try.func4
    (ChangeSpec.witness6 (enc := enc) (C := Try.checked) false ⟨#[], #[.int .i64 0, .int .i64 0], []⟩ 8 (by kernel_rfl) (by kernel_rfl) (by kernel_rfl) (by kernel_rfl)) ?_
  intro W base args ds gs before hval0 hW hcnd _
  have hval : ∀ (j : Nat) t v, Try.f4.params[j]? = some t → args[j]? = some v → Value.okWide Try.prog W .any base t v := hval0
  have hW' := hW
  obtain ⟨p, q, hA0, hV, rfl, hfz, hnd⟩ := hW
  have hA : DataW.TrodAll enc Try.prog W 0 (fun _ => true) true Try.f4.params.toList args.toList ds p := hA0
  rw [Try.params4] at hA hval
  obtain ⟨v0, vs0, d0, ds0, p0, q0, hargs, rfl, rfl, h0, r0⟩ := trodAll_cons hA
  obtain ⟨v1, vs1, d1, ds1, p1, q1, rfl, rfl, rfl, h1, r1⟩ := trodAll_cons r0
  obtain ⟨rfl, rfl, rfl⟩ := trodAll_nil r1
  obtain rfl : args = #[v0, v1] := by cases args; simp_all
  obtain ⟨rfl, rfl⟩ := trodVars_none hV
  obtain ⟨a0, rfl, rfl, rfl, w0⟩ := open_int Try.underlying3 (hval 0 3 v0 rfl rfl) h0
  obtain ⟨a1, rfl, rfl, rfl, w1⟩ := open_int Try.underlying3 (hval 1 3 v1 rfl rfl) h1
  clear hA0 hval0
  simp only [List.append_nil] at hW'
  refine (walk a0 a1 w0 w1 W).mono fun e W' ⟨he, hg⟩ => ?_
  subst he
  exact ⟨_, rfl, _, _, _, [], [], [], hW', (trodAll_cons_mk (shut_bool Try.underlying4 _) trodAll_mk0), (trodAll_cons_mk (shut_int Try.underlying3 w0) (trodAll_cons_mk (shut_int Try.underlying3 w1) trodAll_mk0)), rfl, hg.frame _, fun h => by cases h⟩

theorem over : Rows.cpuPairsRow.holds Try.pinned (OpenSpec.ofChange Rows.cpuPairsSpec) :=
  OpenClaim.holds_of_wide 4 Try.f4 rfl rfl rfl rfl rfl rfl rfl ⟨rfl, rfl, rfl, rfl, rfl⟩ rfl rfl rfl rfl rfl (by kernel_rfl) Try.func4 (by kernel_rfl)
    (of_decide_eq_true (by kernel_rfl)) (by unfold Func.isWrapper; first | (rw [if_pos (by decide +kernel)]; kernel_rfl) | (rw [if_neg (by decide +kernel)]; exact ⟨rfl, rfl⟩))
    (fun os started H enc _ => lifted os started H enc)

theorem proved : Rows.CpuPairsSaid :=
  over
#print axioms proved
end Go.Proofs.Ytodkenbkogfefaa.cpuPairs
