/- Proved: the Go law 'trunnionlaw1.WordPowers' returns true for every input and leaves its arguments as they were (the given statement Rows.WordPowersSaid). No conditions. The frame round the walk was written by the kit's proof-skeleton.mjs. -/
import Derived.Test.YtgljfedajnamnaaRows
import Derived.Test.YtgljfedajnamnaaWord
import Derived.WalkKit
import Derived.ProofKit
import Derived.OpenShut
import Derived.ShutString
namespace Go.Proofs.Ytgljfedajnamnaa.wordPowers
open Go.ChangeShapes Go.WideShapes Go.ChangeAt Go.RowKit
open Go.ChangeMaps (open_string shut_string)
set_option linter.unusedVariables false

theorem own : ownKnob Try.prog.godebug = none := by kernel_rfl

theorem floor_of (s P : Int) (hP : 1 ≤ P) : s / P = if s.tmod P < 0 then s.tdiv P - 1 else s.tdiv P := by
  have h1 := Int.mul_tdiv_add_tmod s P
  have h2 : s.tmod P < P := Int.tmod_lt_of_pos s (by omega)
  have h3 : -P < s.tmod P := by
    have := Int.lt_tmod_of_pos s (show 0 < P by omega); omega
  have key : ∀ q r : Int, P * q + r = s → 0 ≤ r → r < P → s / P = q := fun q r h h0 h1 =>
    ((Int.ediv_emod_unique (a := s) (r := r) (q := q) (show 0 < P by omega)).2 ⟨by omega, h0, h1⟩).1
  split
  · exact key _ (s.tmod P + P) (by rw [Int.mul_sub, Int.mul_one]; omega) (by omega) (by omega)
  · exact key _ (s.tmod P) h1 (by omega) (by omega)
theorem quo_bd (s P : Int) (hs : -2147483648 ≤ s ∧ s ≤ 2147483647) (hP : 1 ≤ P) : -2147483648 ≤ s / P ∧ s / P ≤ 2147483647 := by
  constructor
  · exact (Int.le_ediv_iff_mul_le (by omega)).2 (by omega)
  · by_cases h : 0 ≤ s
    · exact Int.le_trans (Int.ediv_le_self P h) hs.2
    · have := Int.ediv_neg_of_neg_of_pos (show s < 0 by omega) (show 0 < P by omega); omega
theorem facts (a0 a1 P : Int) (k1 : 0 ≤ a1) (k2 : a1 ≤ 31) (hP : 2 ^ a1.toNat = P) (hP0 : 1 ≤ P) (hP1 : P ≤ 2147483648) :
    shl a0 a1 = W (a0 * P) ∧ shr a0 a1 = qdiv a0 P ∧ shl a0 (a1 + 32) = W (a0 * P) ∧ S (sra a0 a1) = S a0 / P ∧ S a0 / P = if (S a0).tmod P < 0 then (S a0).tdiv P - 1 else (S a0).tdiv P := by
  unfold shl shr sra qdiv
  have e : a1 % 32 = a1 := by omega
  have e' : (a1 + 32) % 32 = a1 := by omega
  have hW : W P = P := W_of _ (by omega)
  rw [e, e', hP, hW, if_neg (by omega), S_W]
  refine ⟨rfl, rfl, rfl, ?_, floor_of _ _ hP0⟩
  have := quo_bd (S a0) P (S_bd a0) hP0
  generalize S a0 / P = q at *
  unfold S; omega
theorem walk (a0 : Int) (a1 : Int) (w0 : (Lit.int .i64 a0).wf = true) (w1 : (Lit.int .i64 a1).wf = true) (w : World) :
    Calls Try.prog 11 #[.int .i64 a0, .int .i64 a1] w fun e w' => e = .returned (.bool true) ∧ Grown w w' := by
  clear w0 w1
  by_cases h : 0 ≤ a1 ∧ a1 ≤ 31
  · obtain ⟨k1, k2⟩ := h
    have hs := S_bd a0
    have hp := wrap_pow a1.toNat (by omega)
    obtain ⟨P, hP⟩ : ∃ P : Int, (2 : Int) ^ a1.toNat = P := ⟨_, rfl⟩
    have hP0 : 1 ≤ P := by rw [← hP]; have := pow_pos a1.toNat; omega
    have hP1 : P ≤ 2147483648 := by
      have h1 := Nat.pow_le_pow_right (show 0 < 2 by decide) (show a1.toNat ≤ 31 by omega)
      have h2 : ((2 ^ a1.toNat : Nat) : Int) = P := by rw [← hP]; simp
      omega
    obtain ⟨e1, e2, e4, e3, e5⟩ := facts a0 a1 P k1 k2 hP hP0 hP1
    have qb := quo_bd (S a0) P hs hP0
    rw [hP] at hp
    have hz : (P == 0) = false := by simp; omega
    by_cases hm : (S a0).tmod P < 0
    · rw [if_pos hm] at e5
      rw [e5] at e3 qb
      clear e5
      go_enter Try.func11, Try.ntmps11
      go_wp2_with (first | (go_at_call 13; refine (alive1 _).mono ?_; rintro e w' ⟨rfl, rfl⟩) | (go_at_call 24; refine (left_any _ _ _).mono ?_; rintro e w' ⟨rfl, rfl⟩) | (go_at_call 26; refine (right_any _ _ _).mono ?_; rintro e w' ⟨rfl, rfl⟩) | (go_at_call 28; refine (arith_any _ _ _).mono ?_; rintro e w' ⟨rfl, rfl⟩) | (go_at_call 16; refine (signed_any _ _).mono ?_; rintro e w' ⟨rfl, rfl⟩) | (go_at_call 20; refine (mul_any _ _ _).mono ?_; rintro e w' ⟨rfl, rfl⟩) | (go_at_call 34; refine (div_any _ _ _).mono ?_; rintro e w' ⟨rfl, rfl⟩))
      go_ret
      exact ⟨rfl, Grown.refl _⟩
    · rw [if_neg hm] at e5
      rw [e5] at e3 qb
      clear e5
      go_enter Try.func11, Try.ntmps11
      go_wp2_with (first | (go_at_call 13; refine (alive1 _).mono ?_; rintro e w' ⟨rfl, rfl⟩) | (go_at_call 24; refine (left_any _ _ _).mono ?_; rintro e w' ⟨rfl, rfl⟩) | (go_at_call 26; refine (right_any _ _ _).mono ?_; rintro e w' ⟨rfl, rfl⟩) | (go_at_call 28; refine (arith_any _ _ _).mono ?_; rintro e w' ⟨rfl, rfl⟩) | (go_at_call 16; refine (signed_any _ _).mono ?_; rintro e w' ⟨rfl, rfl⟩) | (go_at_call 20; refine (mul_any _ _ _).mono ?_; rintro e w' ⟨rfl, rfl⟩) | (go_at_call 34; refine (div_any _ _ _).mono ?_; rintro e w' ⟨rfl, rfl⟩))
      go_ret
      exact ⟨rfl, Grown.refl _⟩
  · go_enter Try.func11, Try.ntmps11
    go_wp2_with (first | (go_at_call 13; refine (alive1 _).mono ?_; rintro e w' ⟨rfl, rfl⟩) | (go_at_call 24; refine (left_any _ _ _).mono ?_; rintro e w' ⟨rfl, rfl⟩) | (go_at_call 26; refine (right_any _ _ _).mono ?_; rintro e w' ⟨rfl, rfl⟩) | (go_at_call 28; refine (arith_any _ _ _).mono ?_; rintro e w' ⟨rfl, rfl⟩) | (go_at_call 16; refine (signed_any _ _).mono ?_; rintro e w' ⟨rfl, rfl⟩) | (go_at_call 20; refine (mul_any _ _ _).mono ?_; rintro e w' ⟨rfl, rfl⟩) | (go_at_call 34; refine (div_any _ _ _).mono ?_; rintro e w' ⟨rfl, rfl⟩))
    all_goals
      first
      | omega
      | (go_ret; exact ⟨rfl, Grown.refl _⟩)

set_option maxRecDepth 100000 in
theorem lifted (os : Os) (started : os.Started) (H : Type) (enc : TypeId × Value → H) :
    ReturnsInHanded {} Try.checked os 11 .any (Rows.wordPowersSpec.pre6 enc Try.prog Try.f11 Rows.wordPowersRow.domain false) (Rows.wordPowersSpec.post enc Try.prog Try.f11 false true false false) := by
  refine returnsInHanded_of_change (C := Try.checked) own started (by kernel_rfl) Try.func11
    (ChangeSpec.witness6 (enc := enc) (C := Try.checked) false ⟨#[], #[.int .i64 0, .int .i64 0], []⟩ 8 (by kernel_rfl) (by kernel_rfl) (by kernel_rfl) (by kernel_rfl)) ?_
  intro W base args ds gs before hval0 hW hcnd _
  have hval : ∀ (j : Nat) t v, Try.f11.params[j]? = some t → args[j]? = some v → Value.okWide Try.prog W .any base t v := hval0
  have hW' := hW
  obtain ⟨p, q, hA0, hV, rfl, hfz, hnd⟩ := hW
  have hA : DataW.TrodAll enc Try.prog W 0 (fun _ => true) true Try.f11.params.toList args.toList ds p := hA0
  rw [Try.params11] at hA hval
  obtain ⟨v0, vs0, d0, ds0, p0, q0, hargs, rfl, rfl, h0, r0⟩ := trodAll_cons hA
  obtain ⟨v1, vs1, d1, ds1, p1, q1, rfl, rfl, rfl, h1, r1⟩ := trodAll_cons r0
  obtain ⟨rfl, rfl, rfl⟩ := trodAll_nil r1
  obtain rfl : args = #[v0, v1] := by cases args; simp_all
  obtain ⟨rfl, rfl⟩ := trodVars_none hV
  obtain ⟨a0, rfl, rfl, rfl, w0⟩ := open_int Try.underlying3 (hval 0 3 v0 rfl rfl) h0
  obtain ⟨a1, rfl, rfl, rfl, w1⟩ := open_int Try.underlying3 (hval 1 3 v1 rfl rfl) h1
  clear hA0 hval0
  simp only [List.append_nil] at hW'
  refine (walk a0 a1 w0 w1 W).mono fun e W' ⟨he, hg⟩ => ?_
  subst he
  exact ⟨_, rfl, post_of_same (pa := []) (pv := []) hW' (fun _ _ _ => (trodAll_cons_mk (shut_bool Try.underlying4 _) trodAll_mk0)) (fun sp _ => (trodAll_cons_mk (shut_int Try.underlying3 w0) (trodAll_cons_mk (shut_int Try.underlying3 w1) trodAll_mk0))) (fun _ _ => rfl) rfl
    (hg.frame _) hg.2.1 (ok_one (by kernel_rfl) rfl (okWide_bool_mk Try.underlying4 _))⟩

theorem over : Rows.wordPowersRow.holds Try.pinned (OpenSpec.ofChange Rows.wordPowersSpec) :=
  OpenClaim.holds_of_wide 11 Try.f11 rfl rfl rfl rfl rfl rfl rfl ⟨rfl, rfl, rfl, rfl, rfl⟩ rfl rfl rfl rfl rfl (by kernel_rfl) Try.func11 (by kernel_rfl)
    (of_decide_eq_true (by kernel_rfl)) (by unfold Func.isWrapper; first | (rw [if_pos (by decide +kernel)]; kernel_rfl) | (rw [if_neg (by decide +kernel)]; exact ⟨rfl, rfl⟩))
    (fun os started H enc _ => lifted os started H enc)

theorem proved : Rows.WordPowersSaid :=
  over
#print axioms proved
end Go.Proofs.Ytgljfedajnamnaa.wordPowers
