/- Proved: the Go law 'trunnionlaw8.IrqLeast' returns true for every input and leaves its arguments as they were (the given statement Rows.IrqLeastSaid). No conditions. The frame round the walk was written by the kit's proof-skeleton.mjs. -/
import Derived.Test.YtcealppaeflkfaaRows
import Derived.Test.YtcealppaeflkfaaIrq
import Derived.WalkKit
import Derived.ProofKit
import Derived.OpenShut
import Derived.ShutString
namespace Go.Proofs.Ytcealppaeflkfaa.irqLeast
open Go.ChangeShapes Go.WideShapes Go.ChangeAt Go.RowKit
open Go.ChangeMaps (open_string shut_string)
set_option linter.unusedVariables false

theorem own : ownKnob Try.prog.godebug = none := by kernel_rfl

theorem small (pend ien : Int) : bits .and .i64 (pend % 8) (ien % 8) = 0 ∨ bits .and .i64 (pend % 8) (ien % 8) = 1 ∨ bits .and .i64 (pend % 8) (ien % 8) = 2 ∨ bits .and .i64 (pend % 8) (ien % 8) = 3 ∨ bits .and .i64 (pend % 8) (ien % 8) = 4 ∨ bits .and .i64 (pend % 8) (ien % 8) = 5 ∨ bits .and .i64 (pend % 8) (ien % 8) = 6 ∨ bits .and .i64 (pend % 8) (ien % 8) = 7 := by
  have h : bits .and .i64 (bits .and .i64 (pend % 8) (ien % 8)) 7 = bits .and .i64 (pend % 8) (ien % 8) := by
    have e : bits .and .i64 (ien % 8) 7 = ien % 8 := by rw [and_7]; omega
    have e2 : B (ien % 8) &&& B 7 = B (ien % 8) := by
      have := congrArg B e; rwa [andB, B_toInt] at this
    rw [andB, andB, B_toInt, BitVec.and_assoc, e2]
  rw [and_7] at h
  omega
theorem walk (a0 : Int) (a1 : Int) (w0 : (Lit.int .i64 a0).wf = true) (w1 : (Lit.int .i64 a1).wf = true) (w : World) :
    Calls Try.prog 6 #[.int .i64 a0, .int .i64 a1] w fun e w' => e = .returned (.bool true) ∧ Grown w w' := by
  clear w0 w1
  have h1 := and_7 a0
  have h2 := and_7 a1
  rcases small a0 a1 with h | h | h | h | h | h | h | h
  · have e1 : pk 0 = 0 := by decide
    have e2 : pkB 0 = false := by decide
    have t4 : tk 4 0 = 0 := by decide
    have u4 : tkB 4 0 = false := by decide
    have t5 : tk 5 0 = 0 := by decide
    have u5 : tkB 5 0 = false := by decide
    have t0 : tk 0 0 = 0 := by decide
    have u0 : tkB 0 0 = false := by decide
    have b1 : bits .and .i64 0 1 = 0 := by decide
    have b2 : bits .and .i64 0 0 = 0 := by decide
    go_enter Try.func6, Try.ntmps6
    go_wp2_with (first | (go_at_call 13; refine (alive8 _).mono ?_; rintro e w' ⟨rfl, rfl⟩) | (go_at_call 16; refine (pick_any _ _ _).mono ?_; rintro e w' ⟨rfl, rfl⟩) | (go_at_call 18; refine (takes_any _ _ _ _).mono ?_; rintro e w' ⟨rfl, rfl⟩))
    go_ret
    exact ⟨rfl, Grown.refl _⟩
  · have e1 : pk 1 = 0 := by decide
    have e2 : pkB 1 = true := by decide
    have t4 : tk 4 1 = 0 := by decide
    have u4 : tkB 4 1 = false := by decide
    have t5 : tk 5 1 = 2147483648 := by decide
    have u5 : tkB 5 1 = true := by decide
    have t0 : tk 0 1 = 2147483648 := by decide
    have u0 : tkB 0 1 = true := by decide
    have b1 : bits .and .i64 1 1 = 1 := by decide
    have b2 : bits .and .i64 1 0 = 0 := by decide
    go_enter Try.func6, Try.ntmps6
    go_wp2_with (first | (go_at_call 13; refine (alive8 _).mono ?_; rintro e w' ⟨rfl, rfl⟩) | (go_at_call 16; refine (pick_any _ _ _).mono ?_; rintro e w' ⟨rfl, rfl⟩) | (go_at_call 18; refine (takes_any _ _ _ _).mono ?_; rintro e w' ⟨rfl, rfl⟩))
    go_ret
    exact ⟨rfl, Grown.refl _⟩
  · have e1 : pk 2 = 1 := by decide
    have e2 : pkB 2 = true := by decide
    have t4 : tk 4 2 = 0 := by decide
    have u4 : tkB 4 2 = false := by decide
    have t5 : tk 5 2 = 2147483649 := by decide
    have u5 : tkB 5 2 = true := by decide
    have t0 : tk 0 2 = 2147483649 := by decide
    have u0 : tkB 0 2 = true := by decide
    have b1 : bits .and .i64 1 1 = 1 := by decide
    have b2 : bits .and .i64 2 1 = 0 := by decide
    go_enter Try.func6, Try.ntmps6
    go_wp2_with (first | (go_at_call 13; refine (alive8 _).mono ?_; rintro e w' ⟨rfl, rfl⟩) | (go_at_call 16; refine (pick_any _ _ _).mono ?_; rintro e w' ⟨rfl, rfl⟩) | (go_at_call 18; refine (takes_any _ _ _ _).mono ?_; rintro e w' ⟨rfl, rfl⟩))
    go_ret
    exact ⟨rfl, Grown.refl _⟩
  · have e1 : pk 3 = 0 := by decide
    have e2 : pkB 3 = true := by decide
    have t4 : tk 4 3 = 0 := by decide
    have u4 : tkB 4 3 = false := by decide
    have t5 : tk 5 3 = 2147483648 := by decide
    have u5 : tkB 5 3 = true := by decide
    have t0 : tk 0 3 = 2147483648 := by decide
    have u0 : tkB 0 3 = true := by decide
    have b1 : bits .and .i64 3 1 = 1 := by decide
    have b2 : bits .and .i64 3 0 = 0 := by decide
    go_enter Try.func6, Try.ntmps6
    go_wp2_with (first | (go_at_call 13; refine (alive8 _).mono ?_; rintro e w' ⟨rfl, rfl⟩) | (go_at_call 16; refine (pick_any _ _ _).mono ?_; rintro e w' ⟨rfl, rfl⟩) | (go_at_call 18; refine (takes_any _ _ _ _).mono ?_; rintro e w' ⟨rfl, rfl⟩))
    go_ret
    exact ⟨rfl, Grown.refl _⟩
  · have e1 : pk 4 = 2 := by decide
    have e2 : pkB 4 = true := by decide
    have t4 : tk 4 4 = 0 := by decide
    have u4 : tkB 4 4 = false := by decide
    have t5 : tk 5 4 = 2147483650 := by decide
    have u5 : tkB 5 4 = true := by decide
    have t0 : tk 0 4 = 2147483650 := by decide
    have u0 : tkB 0 4 = true := by decide
    have b1 : bits .and .i64 1 1 = 1 := by decide
    have b2 : bits .and .i64 4 3 = 0 := by decide
    go_enter Try.func6, Try.ntmps6
    go_wp2_with (first | (go_at_call 13; refine (alive8 _).mono ?_; rintro e w' ⟨rfl, rfl⟩) | (go_at_call 16; refine (pick_any _ _ _).mono ?_; rintro e w' ⟨rfl, rfl⟩) | (go_at_call 18; refine (takes_any _ _ _ _).mono ?_; rintro e w' ⟨rfl, rfl⟩))
    go_ret
    exact ⟨rfl, Grown.refl _⟩
  · have e1 : pk 5 = 0 := by decide
    have e2 : pkB 5 = true := by decide
    have t4 : tk 4 5 = 0 := by decide
    have u4 : tkB 4 5 = false := by decide
    have t5 : tk 5 5 = 2147483648 := by decide
    have u5 : tkB 5 5 = true := by decide
    have t0 : tk 0 5 = 2147483648 := by decide
    have u0 : tkB 0 5 = true := by decide
    have b1 : bits .and .i64 5 1 = 1 := by decide
    have b2 : bits .and .i64 5 0 = 0 := by decide
    go_enter Try.func6, Try.ntmps6
    go_wp2_with (first | (go_at_call 13; refine (alive8 _).mono ?_; rintro e w' ⟨rfl, rfl⟩) | (go_at_call 16; refine (pick_any _ _ _).mono ?_; rintro e w' ⟨rfl, rfl⟩) | (go_at_call 18; refine (takes_any _ _ _ _).mono ?_; rintro e w' ⟨rfl, rfl⟩))
    go_ret
    exact ⟨rfl, Grown.refl _⟩
  · have e1 : pk 6 = 1 := by decide
    have e2 : pkB 6 = true := by decide
    have t4 : tk 4 6 = 0 := by decide
    have u4 : tkB 4 6 = false := by decide
    have t5 : tk 5 6 = 2147483649 := by decide
    have u5 : tkB 5 6 = true := by decide
    have t0 : tk 0 6 = 2147483649 := by decide
    have u0 : tkB 0 6 = true := by decide
    have b1 : bits .and .i64 3 1 = 1 := by decide
    have b2 : bits .and .i64 6 1 = 0 := by decide
    go_enter Try.func6, Try.ntmps6
    go_wp2_with (first | (go_at_call 13; refine (alive8 _).mono ?_; rintro e w' ⟨rfl, rfl⟩) | (go_at_call 16; refine (pick_any _ _ _).mono ?_; rintro e w' ⟨rfl, rfl⟩) | (go_at_call 18; refine (takes_any _ _ _ _).mono ?_; rintro e w' ⟨rfl, rfl⟩))
    go_ret
    exact ⟨rfl, Grown.refl _⟩
  · have e1 : pk 7 = 0 := by decide
    have e2 : pkB 7 = true := by decide
    have t4 : tk 4 7 = 0 := by decide
    have u4 : tkB 4 7 = false := by decide
    have t5 : tk 5 7 = 2147483648 := by decide
    have u5 : tkB 5 7 = true := by decide
    have t0 : tk 0 7 = 2147483648 := by decide
    have u0 : tkB 0 7 = true := by decide
    have b1 : bits .and .i64 7 1 = 1 := by decide
    have b2 : bits .and .i64 7 0 = 0 := by decide
    go_enter Try.func6, Try.ntmps6
    go_wp2_with (first | (go_at_call 13; refine (alive8 _).mono ?_; rintro e w' ⟨rfl, rfl⟩) | (go_at_call 16; refine (pick_any _ _ _).mono ?_; rintro e w' ⟨rfl, rfl⟩) | (go_at_call 18; refine (takes_any _ _ _ _).mono ?_; rintro e w' ⟨rfl, rfl⟩))
    go_ret
    exact ⟨rfl, Grown.refl _⟩

set_option maxRecDepth 100000 in
theorem lifted (os : Os) (started : os.Started) (H : Type) (enc : TypeId × Value → H) :
    ReturnsInHanded {} Try.checked os 6 .any (Rows.irqLeastSpec.pre6 enc Try.prog Try.f6 Rows.irqLeastRow.domain false) (Rows.irqLeastSpec.post enc Try.prog Try.f6 false true false false) := by
  refine returnsInHanded_of_change (C := Try.checked) own started (by kernel_rfl) Try.func6
    (ChangeSpec.witness6 (enc := enc) (C := Try.checked) false ⟨#[], #[.int .i64 0, .int .i64 0], []⟩ 8 (by kernel_rfl) (by kernel_rfl) (by kernel_rfl) (by kernel_rfl)) ?_
  intro W base args ds gs before hval0 hW hcnd _
  have hval : ∀ (j : Nat) t v, Try.f6.params[j]? = some t → args[j]? = some v → Value.okWide Try.prog W .any base t v := hval0
  have hW' := hW
  obtain ⟨p, q, hA0, hV, rfl, hfz, hnd⟩ := hW
  have hA : DataW.TrodAll enc Try.prog W 0 (fun _ => true) true Try.f6.params.toList args.toList ds p := hA0
  rw [Try.params6] at hA hval
  obtain ⟨v0, vs0, d0, ds0, p0, q0, hargs, rfl, rfl, h0, r0⟩ := trodAll_cons hA
  obtain ⟨v1, vs1, d1, ds1, p1, q1, rfl, rfl, rfl, h1, r1⟩ := trodAll_cons r0
  obtain ⟨rfl, rfl, rfl⟩ := trodAll_nil r1
  obtain rfl : args = #[v0, v1] := by cases args; simp_all
  obtain ⟨rfl, rfl⟩ := trodVars_none hV
  obtain ⟨a0, rfl, rfl, rfl, w0⟩ := open_int Try.underlying3 (hval 0 3 v0 rfl rfl) h0
  obtain ⟨a1, rfl, rfl, rfl, w1⟩ := open_int Try.underlying3 (hval 1 3 v1 rfl rfl) h1
  clear hA0 hval0
  simp only [List.append_nil] at hW'
  refine (walk a0 a1 w0 w1 W).mono fun e W' ⟨he, hg⟩ => ?_
  subst he
  exact ⟨_, rfl, post_of_same (pa := []) (pv := []) hW' (fun _ _ _ => (trodAll_cons_mk (shut_bool Try.underlying4 _) trodAll_mk0)) (fun sp _ => (trodAll_cons_mk (shut_int Try.underlying3 w0) (trodAll_cons_mk (shut_int Try.underlying3 w1) trodAll_mk0))) (fun _ _ => rfl) rfl
    (hg.frame _) hg.2.1 (ok_one (by kernel_rfl) rfl (okWide_bool_mk Try.underlying4 _))⟩

theorem over : Rows.irqLeastRow.holds Try.pinned (OpenSpec.ofChange Rows.irqLeastSpec) :=
  OpenClaim.holds_of_wide 6 Try.f6 rfl rfl rfl rfl rfl rfl rfl ⟨rfl, rfl, rfl, rfl, rfl⟩ rfl rfl rfl rfl rfl (by kernel_rfl) Try.func6 (by kernel_rfl)
    (of_decide_eq_true (by kernel_rfl)) (by unfold Func.isWrapper; first | (rw [if_pos (by decide +kernel)]; kernel_rfl) | (rw [if_neg (by decide +kernel)]; exact ⟨rfl, rfl⟩))
    (fun os started H enc _ => lifted os started H enc)

theorem proved : Rows.IrqLeastSaid :=
  over
#print axioms proved
end Go.Proofs.Ytcealppaeflkfaa.irqLeast
