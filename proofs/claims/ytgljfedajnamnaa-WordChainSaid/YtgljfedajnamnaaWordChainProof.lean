/- Proved: the Go law 'trunnionlaw1.WordChain' returns true for every input and leaves its arguments as they were (the given statement Rows.WordChainSaid). No conditions. The frame round the walk was written by the kit's proof-skeleton.mjs. -/
import Derived.Test.YtgljfedajnamnaaRows
import Derived.Test.YtgljfedajnamnaaWord
import Derived.WalkKit
import Derived.ProofKit
import Derived.OpenShut
import Derived.ShutString
namespace Go.Proofs.Ytgljfedajnamnaa.wordChain
open Go.ChangeShapes Go.WideShapes Go.ChangeAt Go.RowKit
open Go.ChangeMaps (open_string shut_string)
set_option linter.unusedVariables false

theorem own : ownKnob Try.prog.godebug = none := by kernel_rfl

theorem W_inj (a b : Int) : W a = W b ↔ S a = S b := by unfold W S; omega
theorem core (a0 a1 : Int) (w : World) (f1 f2 b1 b2 : Bool) (h1 : decide (S a0 < S a1) = f1) (h2 : decide (S a1 < S a0) = f2)
    (h3 : decide (W a0 < W a1) = b1) (h4 : decide (W a1 < W a0) = b2) (h5 : (W a0 == W a1) = (!f1 && !f2)) (h6 : (!f1 && !f2) = (!b1 && !b2)) (h7 : (f1 && f2) = false) (h8 : (b1 && b2) = false)
    (h9 : decide (W (bits .xor .i64 a0 2147483648) < W (bits .xor .i64 a1 2147483648)) = f1) :
    Calls Try.prog 7 #[.int .i64 a0, .int .i64 a1] w fun e w' => e = .returned (.bool true) ∧ Grown w w' := by
  cases f1 <;> cases f2 <;> cases b1 <;> cases b2 <;> simp only [Bool.not_true, Bool.not_false, Bool.and_true, Bool.and_false, Bool.false_eq_true, Bool.true_eq_false] at h5 h6 h7 h8
  all_goals
    clear h6 h7 h8
    go_enter Try.func7, Try.ntmps7
    go_wp2_with (first | (go_at_call 13; refine (alive1 _).mono ?_; rintro e w' ⟨rfl, rfl⟩) | (go_at_call 15; refine (refW_any _ _).mono ?_; rintro e w' ⟨rfl, rfl⟩) | (go_at_call 22; refine (less_any _ _ _).mono ?_; rintro e w' ⟨rfl, rfl⟩) | (go_at_call 23; refine (below_any _ _ _).mono ?_; rintro e w' ⟨rfl, rfl⟩))
    go_ret
    exact ⟨rfl, Grown.refl _⟩
theorem walk (a0 : Int) (a1 : Int) (w0 : (Lit.int .i64 a0).wf = true) (w1 : (Lit.int .i64 a1).wf = true) (w : World) :
    Calls Try.prog 7 #[.int .i64 a0, .int .i64 a1] w fun e w' => e = .returned (.bool true) ∧ Grown w w' := by
  refine core a0 a1 w (decide (S a0 < S a1)) (decide (S a1 < S a0)) (decide (W a0 < W a1)) (decide (W a1 < W a0)) rfl rfl rfl rfl ?_ ?_ ?_ ?_ ?_
  · rw [Bool.eq_iff_iff]; simp [W_inj]; omega
  · rw [Bool.eq_iff_iff]; simp; have := W_inj a0 a1; omega
  · simp; omega
  · simp; omega
  · rw [W_xor_top, W_xor_top]; simp

set_option maxRecDepth 100000 in
theorem lifted (os : Os) (started : os.Started) (H : Type) (enc : TypeId × Value → H) :
    ReturnsInHanded {} Try.checked os 7 .any (Rows.wordChainSpec.pre6 enc Try.prog Try.f7 Rows.wordChainRow.domain false) (Rows.wordChainSpec.post enc Try.prog Try.f7 false true false false) := by
  refine returnsInHanded_of_change (C := Try.checked) own started (by kernel_rfl) Try.func7
    (ChangeSpec.witness6 (enc := enc) (C := Try.checked) false ⟨#[], #[.int .i64 0, .int .i64 0], []⟩ 8 (by kernel_rfl) (by kernel_rfl) (by kernel_rfl) (by kernel_rfl)) ?_
  intro W base args ds gs before hval0 hW hcnd _
  have hval : ∀ (j : Nat) t v, Try.f7.params[j]? = some t → args[j]? = some v → Value.okWide Try.prog W .any base t v := hval0
  have hW' := hW
  obtain ⟨p, q, hA0, hV, rfl, hfz, hnd⟩ := hW
  have hA : DataW.TrodAll enc Try.prog W 0 (fun _ => true) true Try.f7.params.toList args.toList ds p := hA0
  rw [Try.params7] at hA hval
  obtain ⟨v0, vs0, d0, ds0, p0, q0, hargs, rfl, rfl, h0, r0⟩ := trodAll_cons hA
  obtain ⟨v1, vs1, d1, ds1, p1, q1, rfl, rfl, rfl, h1, r1⟩ := trodAll_cons r0
  obtain ⟨rfl, rfl, rfl⟩ := trodAll_nil r1
  obtain rfl : args = #[v0, v1] := by cases args; simp_all
  obtain ⟨rfl, rfl⟩ := trodVars_none hV
  obtain ⟨a0, rfl, rfl, rfl, w0⟩ := open_int Try.underlying3 (hval 0 3 v0 rfl rfl) h0
  obtain ⟨a1, rfl, rfl, rfl, w1⟩ := open_int Try.underlying3 (hval 1 3 v1 rfl rfl) h1
  clear hA0 hval0
  simp only [List.append_nil] at hW'
  refine (walk a0 a1 w0 w1 W).mono fun e W' ⟨he, hg⟩ => ?_
  subst he
  exact ⟨_, rfl, post_of_same (pa := []) (pv := []) hW' (fun _ _ _ => (trodAll_cons_mk (shut_bool Try.underlying4 _) trodAll_mk0)) (fun sp _ => (trodAll_cons_mk (shut_int Try.underlying3 w0) (trodAll_cons_mk (shut_int Try.underlying3 w1) trodAll_mk0))) (fun _ _ => rfl) rfl
    (hg.frame _) hg.2.1 (ok_one (by kernel_rfl) rfl (okWide_bool_mk Try.underlying4 _))⟩

theorem over : Rows.wordChainRow.holds Try.pinned (OpenSpec.ofChange Rows.wordChainSpec) :=
  OpenClaim.holds_of_wide 7 Try.f7 rfl rfl rfl rfl rfl rfl rfl ⟨rfl, rfl, rfl, rfl, rfl⟩ rfl rfl rfl rfl rfl (by kernel_rfl) Try.func7 (by kernel_rfl)
    (of_decide_eq_true (by kernel_rfl)) (by unfold Func.isWrapper; first | (rw [if_pos (by decide +kernel)]; kernel_rfl) | (rw [if_neg (by decide +kernel)]; exact ⟨rfl, rfl⟩))
    (fun os started H enc _ => lifted os started H enc)

theorem proved : Rows.WordChainSaid :=
  over
#print axioms proved
end Go.Proofs.Ytgljfedajnamnaa.wordChain
