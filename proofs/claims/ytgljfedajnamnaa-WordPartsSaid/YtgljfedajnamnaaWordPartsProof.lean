/- Proved: the Go law 'trunnionlaw1.WordParts' returns true for every input and leaves its arguments as they were (the given statement Rows.WordPartsSaid). No conditions. The frame round the walk was written by the kit's proof-skeleton.mjs. -/
import Derived.Test.YtgljfedajnamnaaRows
import Derived.Test.YtgljfedajnamnaaWord
import Derived.WalkKit
import Derived.ProofKit
import Derived.OpenShut
import Derived.ShutString
namespace Go.Proofs.Ytgljfedajnamnaa.wordParts
open Go.ChangeShapes Go.WideShapes Go.ChangeAt Go.RowKit
open Go.ChangeMaps (open_string shut_string)
set_option linter.unusedVariables false

theorem own : ownKnob Try.prog.godebug = none := by kernel_rfl

theorem join (x : Int) (k : Nat) (h0 : 0 ≤ x) (h1 : x ≤ 4294967295) (hk : k ≤ 31) : bits .or .i64 (wrap64 (x / 2 ^ k * 2 ^ k)) (x % 2 ^ k) = x := by
  have hp := pow_pos k
  have e : x / 2 ^ k * 2 ^ k = x - x % 2 ^ k := by
    have := Int.mul_ediv_add_emod x (2 ^ k); rw [Int.mul_comm]; omega
  have m0 := Int.emod_nonneg x (show (2 : Int) ^ k ≠ 0 by omega)
  have m1 := Int.emod_lt_of_pos x hp
  have d0 : 0 ≤ x / 2 ^ k * 2 ^ k := Int.mul_nonneg (Int.ediv_nonneg h0 (by omega)) (by omega)
  rw [IntWalk.wrap64_in _ (by omega)]
  rw [bits_join .i64 62 (by decide) (fun n h0 h1 => IntWalk.i64_in n (by omega)) k _ _ d0 (Int.mul_emod_left _ _) (by omega) m0 m1 (by omega)]
  omega
theorem facts (a0 a1 H : Int) (k1 : 1 ≤ a1) (k2 : a1 ≤ 31) (hH : 2 ^ (a1.toNat - 1) = H) :
    bits .or .i64 (wrap64 (bt a0 31 a1 * 2 ^ a1.toNat)) (bt a0 (a1 - 1) 0) = W a0 ∧ 1 ≤ H ∧ H ≤ 1073741824 ∧ 0 ≤ bt a0 (a1 - 1) 0 ∧ bt a0 (a1 - 1) 0 < 2 * H ∧ -H ≤ S (ext a0 a1) ∧ S (ext a0 a1) < H ∧ (S (ext a0 a1) - bt a0 (a1 - 1) 0).tmod (2 * H) = 0 := by
  have hW := W_bd a0
  have hH0 : 1 ≤ H := by rw [← hH]; have := pow_pos (a1.toNat - 1); omega
  have hH1 : H ≤ 1073741824 := by
    have h1 := Nat.pow_le_pow_right (show 0 < 2 by decide) (show a1.toNat - 1 ≤ 30 by omega)
    have h2 : ((2 ^ (a1.toNat - 1) : Nat) : Int) = H := by rw [← hH]; simp
    omega
  have hpow : (2 : Int) ^ a1.toNat = 2 * H := by
    rw [← hH, show a1.toNat = (a1.toNat - 1) + 1 by omega, Int.pow_succ, Nat.add_sub_cancel]; omega
  have elow : bt a0 (a1 - 1) 0 = W a0 % 2 ^ a1.toNat := by
    unfold bt; rw [if_neg (by omega), show (a1 - 1 - 0 + 1).toNat = a1.toNat by omega]; simp
  have ehigh : bt a0 31 a1 = W a0 / 2 ^ a1.toNat := by
    unfold bt; rw [if_neg (by omega)]
    refine Int.emod_eq_of_lt (Int.ediv_nonneg hW.1 (by omega)) ?_
    rw [Int.ediv_lt_iff_lt_mul (by omega), ← Int.pow_add, show (31 - a1 + 1).toNat + a1.toNat = 32 by omega]
    show W a0 < 4294967296
    omega
  have m0 := Int.emod_nonneg (W a0) (show (2 : Int) * H ≠ 0 by omega)
  have m1 := Int.emod_lt_of_pos (W a0) (show 0 < 2 * H by omega)
  have hdv : 2 * H ∣ 4294967296 := by rw [← hpow]; exact pow32 _ (by omega)
  have eW : W a0 % (2 * H) = a0 % (2 * H) := Int.emod_emod_of_dvd a0 hdv
  have hs := sx_eq a0 a1.toNat (by omega)
  rw [hH, hpow] at hs
  have eE : S (ext a0 a1) = sx a0 a1.toNat := by
    rw [ext_eq a0 a1 k1 (by omega), S_W]
    rw [eW] at m0 m1
    have : -2147483648 ≤ sx a0 a1.toNat ∧ sx a0 a1.toNat ≤ 2147483647 := by rw [hs]; split <;> omega
    unfold S; omega
  refine ⟨?_, hH0, hH1, ?_, ?_, ?_, ?_, ?_⟩
  · rw [elow, ehigh]; exact join _ _ hW.1 hW.2 (by omega)
  · rw [elow, hpow]; exact m0
  · rw [elow, hpow]; exact m1
  · rw [eE, hs]; rw [eW] at m0 m1; split <;> omega
  · rw [eE, hs]; rw [eW] at m0 m1; split <;> omega
  · rw [eE, hs, elow, hpow, eW]; split
    · rw [show a0 % (2 * H) - 2 * H - a0 % (2 * H) = -(2 * H) by omega]; simp
    · simp
theorem walk (a0 : Int) (a1 : Int) (w0 : (Lit.int .i64 a0).wf = true) (w1 : (Lit.int .i64 a1).wf = true) (w : World) :
    Calls Try.prog 10 #[.int .i64 a0, .int .i64 a1] w fun e w' => e = .returned (.bool true) ∧ Grown w w' := by
  clear w0 w1
  by_cases h : 1 ≤ a1 ∧ a1 ≤ 31
  · obtain ⟨k1, k2⟩ := h
    have hp := wrap_pow (a1.toNat - 1) (by omega)
    obtain ⟨H, hH⟩ : ∃ H : Int, (2 : Int) ^ (a1.toNat - 1) = H := ⟨_, rfl⟩
    obtain ⟨e1, h0, h1, l0, l1, b0, b1, e2⟩ := facts a0 a1 H k1 k2 hH
    rw [hH] at hp
    have hz : (2 * H == 0) = false := by simp; omega
    have hw : wrap64 (2 * H) = 2 * H := IntWalk.wrap64_in _ (by omega)
    go_enter Try.func10, Try.ntmps10
    go_wp2_with (first | (go_at_call 13; refine (alive1 _).mono ?_; rintro e w' ⟨rfl, rfl⟩) | (go_at_call 30; refine (bits_any _ _ _ _).mono ?_; rintro e w' ⟨rfl, rfl⟩) | (go_at_call 16; refine (signed_any _ _).mono ?_; rintro e w' ⟨rfl, rfl⟩) | (go_at_call 32; refine (extend_any _ _ _).mono ?_; rintro e w' ⟨rfl, rfl⟩) | (go_at_call 15; refine (refW_any _ _).mono ?_; rintro e w' ⟨rfl, rfl⟩))
    go_ret
    exact ⟨rfl, Grown.refl _⟩
  · go_enter Try.func10, Try.ntmps10
    go_wp2_with (first | (go_at_call 13; refine (alive1 _).mono ?_; rintro e w' ⟨rfl, rfl⟩) | (go_at_call 30; refine (bits_any _ _ _ _).mono ?_; rintro e w' ⟨rfl, rfl⟩) | (go_at_call 16; refine (signed_any _ _).mono ?_; rintro e w' ⟨rfl, rfl⟩) | (go_at_call 32; refine (extend_any _ _ _).mono ?_; rintro e w' ⟨rfl, rfl⟩) | (go_at_call 15; refine (refW_any _ _).mono ?_; rintro e w' ⟨rfl, rfl⟩))
    all_goals
      first
      | omega
      | (go_ret; exact ⟨rfl, Grown.refl _⟩)

set_option maxRecDepth 100000 in
theorem lifted (os : Os) (started : os.Started) (H : Type) (enc : TypeId × Value → H) :
    ReturnsInHanded {} Try.checked os 10 .any (Rows.wordPartsSpec.pre6 enc Try.prog Try.f10 Rows.wordPartsRow.domain false) (Rows.wordPartsSpec.post enc Try.prog Try.f10 false true false false) := by
  refine returnsInHanded_of_change (C := Try.checked) own started (by kernel_rfl) Try.func10
    (ChangeSpec.witness6 (enc := enc) (C := Try.checked) false ⟨#[], #[.int .i64 0, .int .i64 0], []⟩ 8 (by kernel_rfl) (by kernel_rfl) (by kernel_rfl) (by kernel_rfl)) ?_
  intro W base args ds gs before hval0 hW hcnd _
  have hval : ∀ (j : Nat) t v, Try.f10.params[j]? = some t → args[j]? = some v → Value.okWide Try.prog W .any base t v := hval0
  have hW' := hW
  obtain ⟨p, q, hA0, hV, rfl, hfz, hnd⟩ := hW
  have hA : DataW.TrodAll enc Try.prog W 0 (fun _ => true) true Try.f10.params.toList args.toList ds p := hA0
  rw [Try.params10] at hA hval
  obtain ⟨v0, vs0, d0, ds0, p0, q0, hargs, rfl, rfl, h0, r0⟩ := trodAll_cons hA
  obtain ⟨v1, vs1, d1, ds1, p1, q1, rfl, rfl, rfl, h1, r1⟩ := trodAll_cons r0
  obtain ⟨rfl, rfl, rfl⟩ := trodAll_nil r1
  obtain rfl : args = #[v0, v1] := by cases args; simp_all
  obtain ⟨rfl, rfl⟩ := trodVars_none hV
  obtain ⟨a0, rfl, rfl, rfl, w0⟩ := open_int Try.underlying3 (hval 0 3 v0 rfl rfl) h0
  obtain ⟨a1, rfl, rfl, rfl, w1⟩ := open_int Try.underlying3 (hval 1 3 v1 rfl rfl) h1
  clear hA0 hval0
  simp only [List.append_nil] at hW'
  refine (walk a0 a1 w0 w1 W).mono fun e W' ⟨he, hg⟩ => ?_
  subst he
  exact ⟨_, rfl, post_of_same (pa := []) (pv := []) hW' (fun _ _ _ => (trodAll_cons_mk (shut_bool Try.underlying4 _) trodAll_mk0)) (fun sp _ => (trodAll_cons_mk (shut_int Try.underlying3 w0) (trodAll_cons_mk (shut_int Try.underlying3 w1) trodAll_mk0))) (fun _ _ => rfl) rfl
    (hg.frame _) hg.2.1 (ok_one (by kernel_rfl) rfl (okWide_bool_mk Try.underlying4 _))⟩

theorem over : Rows.wordPartsRow.holds Try.pinned (OpenSpec.ofChange Rows.wordPartsSpec) :=
  OpenClaim.holds_of_wide 10 Try.f10 rfl rfl rfl rfl rfl rfl rfl ⟨rfl, rfl, rfl, rfl, rfl⟩ rfl rfl rfl rfl rfl (by kernel_rfl) Try.func10 (by kernel_rfl)
    (of_decide_eq_true (by kernel_rfl)) (by unfold Func.isWrapper; first | (rw [if_pos (by decide +kernel)]; kernel_rfl) | (rw [if_neg (by decide +kernel)]; exact ⟨rfl, rfl⟩))
    (fun os started H enc _ => lifted os started H enc)

theorem proved : Rows.WordPartsSaid :=
  over
#print axioms proved
end Go.Proofs.Ytgljfedajnamnaa.wordParts
