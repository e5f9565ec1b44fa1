/- Proved: the Go law 'trunnionlaw3.CsrFixed' returns true for every input and leaves its arguments as they were (the given statement Rows.CsrFixedSaid). No conditions. The frame round the walk was written by the kit's proof-skeleton.mjs. -/
import Derived.Test.YtcealppaeflkfaaRows
import Derived.Test.YtcealppaeflkfaaCsr
import Derived.WalkKit
import Derived.ProofKit
import Derived.OpenShut
import Derived.ShutString
namespace Go.Proofs.Ytcealppaeflkfaa.csrFixed
open Go.ChangeShapes Go.WideShapes Go.ChangeAt Go.RowKit
open Go.ChangeMaps (open_string shut_string)
set_option linter.unusedVariables false

theorem own : ownKnob Try.prog.godebug = none := by kernel_rfl

theorem none (old v : Int) (n : Int) (h : maskI n = 0) : wr n old v = W old := by
  unfold wr wrB; rw [h, W_B]
  congr 1
  show (B old &&& BitVec.allOnes 64 ||| B v &&& 0#64) &&& 4294967295#64 = B old &&& 4294967295#64
  rw [BitVec.and_allOnes, BitVec.and_zero, BitVec.or_zero]
theorem vec (v : Int) : wr 1 0 v = bits .and .i64 v 4294967292 := by
  rw [andB]; unfold wr wrB
  congr 1
  show (0#64 &&& ~~~(4294967292#64) ||| B v &&& 4294967292#64) &&& 4294967295#64 = B v &&& 4294967292#64
  simp [BitVec.and_assoc]
theorem four (v : Int) : wr 1 0 v % 4 = 0 := by
  have h : bits .and .i64 (wr 1 0 v) 3 = 0 := by
    rw [vec, andB, andB, B_toInt, BitVec.and_assoc]
    show (B v &&& 0#64).toInt = 0
    simp
  rwa [and_3] at h
theorem mode (old v : Int) : bits .and .i64 (wr 0 old v) 4 = bits .and .i64 old 4 := by
  rw [andB, andB]; unfold wr; rw [B_toInt]; unfold wrB
  congr 1
  show ((B old &&& ~~~(11#64) ||| B v &&& 11#64) &&& 4294967295#64) &&& 4#64 = B old &&& 4#64
  rw [BitVec.and_assoc, show (4294967295#64 &&& 4#64) = 4#64 from rfl, BitVec.and_or_distrib_right, BitVec.and_assoc, BitVec.and_assoc, show (~~~(11#64) &&& 4#64) = 4#64 from rfl, show (11#64 &&& 4#64) = 0#64 from rfl]
  simp
theorem walk (a0 : Int) (a1 : Int) (w0 : (Lit.int .i64 a0).wf = true) (w1 : (Lit.int .i64 a1).wf = true) (w : World) :
    Calls Try.prog 10 #[.int .i64 a0, .int .i64 a1] w fun e w' => e = .returned (.bool true) ∧ Grown w w' := by
  clear w0 w1
  have e1 := none a0 a1 7 (by decide)
  have e2 := none a0 a1 9 (by decide)
  have e3 := none a0 a1 11 (by decide)
  have e4 := and_word a0
  have e5 : wr 2 0 a1 = wr 1 0 a1 := rfl
  have e6 := four a1
  have e7 := mode a0 a1
  have e8 := (vec a1).symm
  have e9 := wr_bd 1 0 a1
  go_enter Try.func10, Try.ntmps10
  go_wp2_with (first | (go_at_call 20; refine (alive3 _).mono ?_; rintro e w' ⟨rfl, rfl⟩) | (go_at_call 28; refine (write_any _ _ _ _).mono ?_; rintro e w' ⟨rfl, rfl⟩))
  go_ret
  exact ⟨rfl, Grown.refl _⟩

set_option maxRecDepth 100000 in
theorem lifted (os : Os) (started : os.Started) (H : Type) (enc : TypeId × Value → H) :
    ReturnsInHanded {} Try.checked os 10 .any (Rows.csrFixedSpec.pre6 enc Try.prog Try.f10 Rows.csrFixedRow.domain false) (Rows.csrFixedSpec.post enc Try.prog Try.f10 false true false false) := by
  refine returnsInHanded_of_change (C := Try.checked) own started (by kernel_rfl) Try.func10
    (ChangeSpec.witness6 (enc := enc) (C := Try.checked) false ⟨#[], #[.int .i64 0, .int .i64 0], []⟩ 8 (by kernel_rfl) (by kernel_rfl) (by kernel_rfl) (by kernel_rfl)) ?_
  intro W base args ds gs before hval0 hW hcnd _
  have hval : ∀ (j : Nat) t v, Try.f10.params[j]? = some t → args[j]? = some v → Value.okWide Try.prog W .any base t v := hval0
  have hW' := hW
  obtain ⟨p, q, hA0, hV, rfl, hfz, hnd⟩ := hW
  have hA : DataW.TrodAll enc Try.prog W 0 (fun _ => true) true Try.f10.params.toList args.toList ds p := hA0
  rw [Try.params10] at hA hval
  obtain ⟨v0, vs0, d0, ds0, p0, q0, hargs, rfl, rfl, h0, r0⟩ := trodAll_cons hA
  obtain ⟨v1, vs1, d1, ds1, p1, q1, rfl, rfl, rfl, h1, r1⟩ := trodAll_cons r0
  obtain ⟨rfl, rfl, rfl⟩ := trodAll_nil r1
  obtain rfl : args = #[v0, v1] := by cases args; simp_all
  obtain ⟨rfl, rfl⟩ := trodVars_none hV
  obtain ⟨a0, rfl, rfl, rfl, w0⟩ := open_int Try.underlying3 (hval 0 3 v0 rfl rfl) h0
  obtain ⟨a1, rfl, rfl, rfl, w1⟩ := open_int Try.underlying3 (hval 1 3 v1 rfl rfl) h1
  clear hA0 hval0
  simp only [List.append_nil] at hW'
  refine (walk a0 a1 w0 w1 W).mono fun e W' ⟨he, hg⟩ => ?_
  subst he
  exact ⟨_, rfl, post_of_same (pa := []) (pv := []) hW' (fun _ _ _ => (trodAll_cons_mk (shut_bool Try.underlying4 _) trodAll_mk0)) (fun sp _ => (trodAll_cons_mk (shut_int Try.underlying3 w0) (trodAll_cons_mk (shut_int Try.underlying3 w1) trodAll_mk0))) (fun _ _ => rfl) rfl
    (hg.frame _) hg.2.1 (ok_one (by kernel_rfl) rfl (okWide_bool_mk Try.underlying4 _))⟩

theorem over : Rows.csrFixedRow.holds Try.pinned (OpenSpec.ofChange Rows.csrFixedSpec) :=
  OpenClaim.holds_of_wide 10 Try.f10 rfl rfl rfl rfl rfl rfl rfl ⟨rfl, rfl, rfl, rfl, rfl⟩ rfl rfl rfl rfl rfl (by kernel_rfl) Try.func10 (by kernel_rfl)
    (of_decide_eq_true (by kernel_rfl)) (by unfold Func.isWrapper; first | (rw [if_pos (by decide +kernel)]; kernel_rfl) | (rw [if_neg (by decide +kernel)]; exact ⟨rfl, rfl⟩))
    (fun os started H enc _ => lifted os started H enc)

theorem proved : Rows.CsrFixedSaid :=
  over
#print axioms proved
end Go.Proofs.Ytcealppaeflkfaa.csrFixed
