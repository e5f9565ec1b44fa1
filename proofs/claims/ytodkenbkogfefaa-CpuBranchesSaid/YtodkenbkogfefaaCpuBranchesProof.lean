/- Proved: the Go law 'trunnionlaw9.CpuBranches' returns true for every input and leaves its arguments as they were (the given statement Rows.CpuBranchesSaid). No conditions. The frame round the walk was written by the kit's proof-skeleton.mjs. -/
import Derived.Test.YtodkenbkogfefaaRows
import Derived.Test.YtodkenbkogfefaaCpuAcc
import Derived.WalkKit
import Derived.ProofKit
import Derived.OpenShut
import Derived.ShutString
namespace Go.Proofs.Ytodkenbkogfefaa.cpuBranches
open Go.ChangeShapes Go.WideShapes Go.ChangeAt Go.RowKit
open Go.ChangeMaps (open_string shut_string)
set_option linter.unusedVariables false

theorem own : ownKnob Try.prog.godebug = none := by kernel_rfl

theorem facts (x y : Int) : (tkn 48 x y == tkn 49 x y) = false ∧ (tkn 50 x y == tkn 51 x y) = false ∧ (tkn 52 x y == tkn 53 x y) = false ∧ (aluV 10 x y == 1) = tkn 50 x y ∧ (aluV 11 x y == 1) = tkn 52 x y ∧ (W x == W y) = tkn 48 x y := by
  refine ⟨?_, ?_, ?_, ?_, ?_, rfl⟩
  · show ((W x == W y) == !(W x == W y)) = false; cases (W x == W y) <;> rfl
  · show (decide (S x < S y) == !decide (S x < S y)) = false; cases decide (S x < S y) <;> rfl
  · show (decide (W x < W y) == !decide (W x < W y)) = false; cases decide (W x < W y) <;> rfl
  · show (bitI (decide (S x < S y)) == 1) = decide (S x < S y); cases decide (S x < S y) <;> rfl
  · show (bitI (decide (W x < W y)) == 1) = decide (W x < W y); cases decide (W x < W y) <;> rfl
theorem walk (a0 : Int) (a1 : Int) (w0 : (Lit.int .i64 a0).wf = true) (w1 : (Lit.int .i64 a1).wf = true) (w : World) :
    Calls Try.prog 7 #[.int .i64 a0, .int .i64 a1] w fun e w' => e = .returned (.bool true) ∧ Below w.heap.size w w' := by
  clear w0 w1
  obtain ⟨f1, f2, f3, f4, f5, f6⟩ := facts a0 a1
  have b48 : brB 48 = true := by decide
  have b49 : brB 49 = true := by decide
  have b50 : brB 50 = true := by decide
  have b51 : brB 51 = true := by decide
  have b52 : brB 52 = true := by decide
  have b53 : brB 53 = true := by decide
  go_enter Try.func7, Try.ntmps7
  go_wp2_with fail
  refine (alive9 _).mono ?_
  rintro e w1 ⟨rfl, hb1⟩
  have HB := Lib.hid hb1
  clear hb1
  go_wp2_with fail
  go_loop [6] (fun i => ∃ k : Int, i = .int .i64 k ∧ (k = 48 ∨ k = 50 ∨ k = 52 ∨ k = 54)) (fun i => 60 - (intOf i).toNat)
  case atStart => exact ⟨48, rfl, by omega⟩
  case round =>
    obtain ⟨k, rfl, hk⟩ := hrel
    rcases hk with rfl | rfl | rfl | rfl
    · go_wp2_with (first | (go_at_call 20; refine (taken_any _ _ _ _).mono ?_; rintro e w' ⟨rfl, rfl⟩))
      go_round
      case rel => exact ⟨50, rfl, by omega⟩
      case measure => simp [intOf]
    · go_wp2_with (first | (go_at_call 20; refine (taken_any _ _ _ _).mono ?_; rintro e w' ⟨rfl, rfl⟩))
      go_round
      case rel => exact ⟨52, rfl, by omega⟩
      case measure => simp [intOf]
    · go_wp2_with (first | (go_at_call 20; refine (taken_any _ _ _ _).mono ?_; rintro e w' ⟨rfl, rfl⟩))
      go_round
      case rel => exact ⟨54, rfl, by omega⟩
      case measure => simp [intOf]
    · go_wp2_with fail
      refine (taken_any _ _ _ _).mono ?_
      rintro e w2 ⟨rfl, rfl⟩
      go_wp2_with fail
      refine (taken_any _ _ _ _).mono ?_
      rintro e w2 ⟨rfl, rfl⟩
      go_wp2_with fail
      refine (alu_any _ _ _ _).mono ?_
      rintro e w2 ⟨rfl, hb2⟩
      have HB2 := Lib.hid (btrans HB.out hb2)
      clear hb2 HB
      go_wp2_with fail
      refine (alu_any _ _ _ _).mono ?_
      rintro e w3 ⟨rfl, hb3⟩
      have HB := Lib.hid (btrans HB2.out hb3)
      clear hb3 HB2
      go_wp2_with (first | (go_at_call 20; refine (taken_any _ _ _ _).mono ?_; rintro e w' ⟨rfl, rfl⟩) | (go_at_call 17; refine (refW_any _ _).mono ?_; rintro e w' ⟨rfl, rfl⟩))
      go_ret
      exact ⟨rfl, HB.out⟩

set_option maxRecDepth 100000 in
theorem lifted (os : Os) (started : os.Started) (H : Type) (enc : TypeId × Value → H) :
    ReturnsInHanded {} Try.checked os 7 .any (Rows.cpuBranchesSpec.pre6 enc Try.prog Try.f7 Rows.cpuBranchesRow.domain false) (Rows.cpuBranchesSpec.post enc Try.prog Try.f7 false true false false) := by
  refine returnsInHanded_of_change (C := Try.checked) own started (by kernel_rfl) Try.func7
    (ChangeSpec.witness6 (enc := enc) (C := Try.checked) false ⟨#[], #[.int .i64 0, .int .i64 0], []⟩ 8 (by kernel_rfl) (by kernel_rfl) (by kernel_rfl) (by kernel_rfl)) ?_
  intro W base args ds gs before hval0 hW hcnd _
  have hval : ∀ (j : Nat) t v, Try.f7.params[j]? = some t → args[j]? = some v → Value.okWide Try.prog W .any base t v := hval0
  have hW' := hW
  obtain ⟨p, q, hA0, hV, rfl, hfz, hnd⟩ := hW
  have hA : DataW.TrodAll enc Try.prog W 0 (fun _ => true) true Try.f7.params.toList args.toList ds p := hA0
  rw [Try.params7] at hA hval
  obtain ⟨v0, vs0, d0, ds0, p0, q0, hargs, rfl, rfl, h0, r0⟩ := trodAll_cons hA
  obtain ⟨v1, vs1, d1, ds1, p1, q1, rfl, rfl, rfl, h1, r1⟩ := trodAll_cons r0
  obtain ⟨rfl, rfl, rfl⟩ := trodAll_nil r1
  obtain rfl : args = #[v0, v1] := by cases args; simp_all
  obtain ⟨rfl, rfl⟩ := trodVars_none hV
  obtain ⟨a0, rfl, rfl, rfl, w0⟩ := open_int Try.underlying3 (hval 0 3 v0 rfl rfl) h0
  obtain ⟨a1, rfl, rfl, rfl, w1⟩ := open_int Try.underlying3 (hval 1 3 v1 rfl rfl) h1
  clear hA0 hval0
  simp only [List.append_nil] at hW'
  refine (walk a0 a1 w0 w1 W).mono fun e W' ⟨he, hg⟩ => ?_
  subst he
  exact ⟨_, rfl, _, _, _, [], [], [], hW', (trodAll_cons_mk (shut_bool Try.underlying4 _) trodAll_mk0), (trodAll_cons_mk (shut_int Try.underlying3 w0) (trodAll_cons_mk (shut_int Try.underlying3 w1) trodAll_mk0)), rfl, hg.frame _, fun h => by cases h⟩

theorem over : Rows.cpuBranchesRow.holds Try.pinned (OpenSpec.ofChange Rows.cpuBranchesSpec) :=
  OpenClaim.holds_of_wide 7 Try.f7 rfl rfl rfl rfl rfl rfl rfl ⟨rfl, rfl, rfl, rfl, rfl⟩ rfl rfl rfl rfl rfl (by kernel_rfl) Try.func7 (by kernel_rfl)
    (of_decide_eq_true (by kernel_rfl)) (by unfold Func.isWrapper; first | (rw [if_pos (by decide +kernel)]; kernel_rfl) | (rw [if_neg (by decide +kernel)]; exact ⟨rfl, rfl⟩))
    (fun os started H enc _ => lifted os started H enc)

theorem proved : Rows.CpuBranchesSaid :=
  over
#print axioms proved
end Go.Proofs.Ytodkenbkogfefaa.cpuBranches
