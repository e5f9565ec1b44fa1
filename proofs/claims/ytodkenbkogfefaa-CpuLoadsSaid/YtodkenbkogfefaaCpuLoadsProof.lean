/- Proved: the Go law 'trunnionlaw9.CpuLoads' returns true for every input and leaves its arguments as they were (the given statement Rows.CpuLoadsSaid). No conditions. The frame round the walk was written by the kit's proof-skeleton.mjs. -/
import Derived.Test.YtodkenbkogfefaaRows
import Derived.Test.YtodkenbkogfefaaCpuAcc
import Derived.WalkKit
import Derived.ProofKit
import Derived.OpenShut
import Derived.ShutString
namespace Go.Proofs.Ytodkenbkogfefaa.cpuLoads
open Go.ChangeShapes Go.WideShapes Go.ChangeAt Go.RowKit
open Go.ChangeMaps (open_string shut_string)
set_option linter.unusedVariables false

theorem own : ownKnob Try.prog.godebug = none := by kernel_rfl

theorem sx8 (v : Int) : S (ext (v % 256) 8) = if v % 256 > 127 then v % 256 - 256 else v % 256 := by
  rw [ext_eq _ _ (by decide) (by decide), S_W]
  show S (sx (v % 256) 8) = _
  unfold sx S
  split <;> omega
theorem sx16 (v : Int) : S (ext (v % 65536) 16) = if v % 65536 > 32767 then v % 65536 - 65536 else v % 65536 := by
  rw [ext_eq _ _ (by decide) (by decide), S_W]
  show S (sx (v % 65536) 16) = _
  unfold sx S
  split <;> omega
theorem facts (v : Int) : loadedI 35 (v % 256) = ext (v % 256) 8 ∧ loadedI 33 (v % 65536) = ext (v % 65536) 16 ∧ loadedI 36 (v % 256) = v % 256 ∧ loadedI 34 (v % 65536) = v % 65536 ∧ loadedI 32 v = W v := by
  refine ⟨rfl, rfl, ?_, ?_, rfl⟩
  · show W (v % 256) = _; unfold W; omega
  · show W (v % 65536) = _; unfold W; omega
theorem walk (a0 : Int) (w0 : (Lit.int .i64 a0).wf = true) (w : World) :
    Calls Try.prog 5 #[.int .i64 a0] w fun e w' => e = .returned (.bool true) ∧ Below w.heap.size w w' := by
  clear w0
  have h1 := and_255 a0
  have h2 := and_65535 a0
  obtain ⟨e1, e2, e3, e4, e5⟩ := facts a0
  have s1 := sx8 a0
  have s2 := sx16 a0
  obtain ⟨b, hb⟩ : ∃ b, a0 % 256 = b := ⟨_, rfl⟩
  obtain ⟨h, hh⟩ : ∃ h, a0 % 65536 = h := ⟨_, rfl⟩
  have g1 : 0 ≤ b ∧ b ≤ 255 := by omega
  have g2 : 0 ≤ h ∧ h ≤ 65535 := by omega
  rw [hb] at h1 e1 e3 s1
  rw [hh] at h2 e2 e4 s2
  clear hb hh
  by_cases c1 : b > 127 <;> by_cases c2 : h > 32767
  all_goals
    first | rw [if_pos c1] at s1 | rw [if_neg c1] at s1
    first | rw [if_pos c2] at s2 | rw [if_neg c2] at s2
    go_enter Try.func5, Try.ntmps5
    go_wp2_with fail
    refine (alive9 _).mono ?_
    rintro e w1 ⟨rfl, hb1⟩
    have HB := Lib.hid hb1
    clear hb1
    go_wp2_with (first | (go_at_call 14; refine (loaded_any _ _ _).mono ?_; rintro e w' ⟨rfl, rfl⟩) | (go_at_call 18; refine (refSigned_any _ _).mono ?_; rintro e w' ⟨rfl, rfl⟩) | (go_at_call 17; refine (refW_any _ _).mono ?_; rintro e w' ⟨rfl, rfl⟩))
    go_ret
    exact ⟨ret_bool (by first | (simp; omega) | (rw [show decide (h < 0) = false by simp; omega, show decide (32767 < h) = false by simp; omega]; rfl)), HB.out⟩

set_option maxRecDepth 100000 in
theorem lifted (os : Os) (started : os.Started) (H : Type) (enc : TypeId × Value → H) :
    ReturnsInHanded {} Try.checked os 5 .any (Rows.cpuLoadsSpec.pre6 enc Try.prog Try.f5 Rows.cpuLoadsRow.domain false) (Rows.cpuLoadsSpec.post enc Try.prog Try.f5 false true false false) := by
  refine returnsInHanded_of_change (C := Try.checked) own started (by kernel_rfl) Try.func5
    (ChangeSpec.witness6 (enc := enc) (C := Try.checked) false ⟨#[], #[.int .i64 0], []⟩ 8 (by kernel_rfl) (by kernel_rfl) (by kernel_rfl) (by kernel_rfl)) ?_
  intro W base args ds gs before hval0 hW hcnd _
  have hval : ∀ (j : Nat) t v, Try.f5.params[j]? = some t → args[j]? = some v → Value.okWide Try.prog W .any base t v := hval0
  have hW' := hW
  obtain ⟨p, q, hA0, hV, rfl, hfz, hnd⟩ := hW
  have hA : DataW.TrodAll enc Try.prog W 0 (fun _ => true) true Try.f5.params.toList args.toList ds p := hA0
  rw [Try.params5] at hA hval
  obtain ⟨v0, vs0, d0, ds0, p0, q0, hargs, rfl, rfl, h0, r0⟩ := trodAll_cons hA
  obtain ⟨rfl, rfl, rfl⟩ := trodAll_nil r0
  obtain rfl : args = #[v0] := by cases args; simp_all
  obtain ⟨rfl, rfl⟩ := trodVars_none hV
  obtain ⟨a0, rfl, rfl, rfl, w0⟩ := open_int Try.underlying3 (hval 0 3 v0 rfl rfl) h0
  clear hA0 hval0
  simp only [List.append_nil] at hW'
  refine (walk a0 w0 W).mono fun e W' ⟨he, hg⟩ => ?_
  subst he
  exact ⟨_, rfl, _, _, _, [], [], [], hW', (trodAll_cons_mk (shut_bool Try.underlying4 _) trodAll_mk0), (trodAll_cons_mk (shut_int Try.underlying3 w0) trodAll_mk0), rfl, hg.frame _, fun h => by cases h⟩

theorem over : Rows.cpuLoadsRow.holds Try.pinned (OpenSpec.ofChange Rows.cpuLoadsSpec) :=
  OpenClaim.holds_of_wide 5 Try.f5 rfl rfl rfl rfl rfl rfl rfl ⟨rfl, rfl, rfl, rfl, rfl⟩ rfl rfl rfl rfl rfl (by kernel_rfl) Try.func5 (by kernel_rfl)
    (of_decide_eq_true (by kernel_rfl)) (by unfold Func.isWrapper; first | (rw [if_pos (by decide +kernel)]; kernel_rfl) | (rw [if_neg (by decide +kernel)]; exact ⟨rfl, rfl⟩))
    (fun os started H enc _ => lifted os started H enc)

theorem proved : Rows.CpuLoadsSaid :=
  over
#print axioms proved
end Go.Proofs.Ytodkenbkogfefaa.cpuLoads
