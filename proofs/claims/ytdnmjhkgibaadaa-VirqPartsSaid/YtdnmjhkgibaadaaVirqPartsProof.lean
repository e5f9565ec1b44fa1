/- Proved: the Go law 'trunnionlaw20.VirqParts' returns true for every input and leaves its arguments as they were (the given statement Rows.VirqPartsSaid). No conditions. The frame round the walk was written by the kit's proof-skeleton.mjs. -/
import Derived.Test.YtdnmjhkgibaadaaRows
import Derived.Test.YtdnmjhkgibaadaaVirqLaw
import Derived.WalkKit
import Derived.ProofKit
import Derived.OpenShut
import Derived.ShutString
namespace Go.Proofs.Ytdnmjhkgibaadaa.virqParts
open Go.ChangeShapes Go.WideShapes Go.ChangeAt Go.RowKit
open Go.ChangeMaps (open_string shut_string)
set_option linter.unusedVariables false

theorem own : ownKnob Try.prog.godebug = none := by kernel_rfl

theorem facts (a0 a1 a2 : Int) (h0 : 0 ≤ a0) (h1 : a0 < a1) (h2 : a1 ≤ 2147483648) (h3 : 0 ≤ a2) (h4 : a2 ≤ a1 - a0) :
    (∀ wt ms, slp (lit11 a0 a1) 11 wt ms = (a1 - a0, true)) ∧ slp (skF (lit11 a0 a1) 11 a2) 11 0 0 = (a1 - a0 - a2, true) ∧ pendI (cv (skF (lit11 a0 a1) 11 (a1 - a0)) 11 7) (cv (skF (lit11 a0 a1) 11 (a1 - a0)) 11 8) 0 0 = 1 := by
  have c8 : W a1 = a1 := W_of _ (by omega)
  have c7 : W a0 = a0 := W_of _ (by omega)
  have s7 : ∀ x, 0 ≤ x → x ≤ a1 - a0 → cv (skF (lit11 a0 a1) 11 x) 11 7 = a0 + x := by
    intro x hx0 hx1
    show W (W (a0 + max 0 x)) = _
    rw [W_W, W_of _ (by omega)]; omega
  refine ⟨fun wt ms => ?_, ?_, ?_⟩
  · exact slp_of _ _ wt ms a0 a1 (by show W 1 = 1; decide) (by show W 4 = 4; decide) c7 c8 h0 (by omega) (by omega) h2
  · rw [slp_of _ _ 0 0 (a0 + a2) a1 (by show W 1 = 1; decide) (by show W 4 = 4; decide) (s7 a2 h3 h4) c8 (by omega) (by omega) (by omega) h2]
    congr 1; omega
  · rw [s7 _ (by omega) (by omega), show a0 + (a1 - a0) = a1 by omega]
    show pendI a1 (W a1) 0 0 = 1
    rw [c8]; unfold pendI
    rw [c8, if_pos (by omega), if_neg (by omega), if_neg (by omega)]; rfl
theorem box6 (w1 w' : World) (a b : Int) (t t' : TypeId) (X : World) (hX : ((w1.alloc (.cells #[.int .i64 4, .int .i64 0, .int .i64 0, .int .i64 0, .int .i64 0, .int .i64 0, .int .i64 0, .int .i64 a, .int .i64 b, .int .i64 0, .int .i64 1] t)).alloc (.cells #[.slice none 0 0, .int .i64 0, .slice (some ⟨w1.heap.size, 0, none⟩) 11 11, .bool false, .bool false, .slice none 0 0] t')) = X) (hb : Below X.heap.size X w') :
    w'.cell? ⟨w1.heap.size + 1, 0, none⟩ = some (.slice none 0 0) ∧ w'.cell? ⟨w1.heap.size + 1, 1, none⟩ = some (.int .i64 0) ∧ w'.cell? ⟨w1.heap.size + 1, 2, none⟩ = some (.slice (some ⟨w1.heap.size, 0, none⟩) 11 11) ∧ w'.cell? ⟨w1.heap.size + 1, 3, none⟩ = some (.bool false) ∧ w'.cell? ⟨w1.heap.size + 1, 4, none⟩ = some (.bool false) ∧ w'.cell? ⟨w1.heap.size + 1, 5, none⟩ = some (.slice none 0 0) ∧ IntsAt w' (some ⟨w1.heap.size, 0, none⟩) 11 (lit11 a b) := by
  have hc := cell_below hb
  subst hX
  exact ⟨hc _ _ (by simp), hc _ _ (by simp), hc _ _ (by simp), hc _ _ (by simp), hc _ _ (by simp), hc _ _ (by simp), ((ints11 w1 a b t).alloc _).below hb⟩
theorem src_nil (w : World) : Src w none 0 [] := ⟨rfl, (fun u hu => by simp at hu), fun h => absurd h (by omega), fun ad e => by cases e⟩
set_option maxRecDepth 100000 in
set_option maxHeartbeats 4000000 in
theorem core (a0 a1 a2 : Int) (w : World) (h0 : 0 ≤ a0) (h1 : a0 < a1) (h2 : a1 ≤ 2147483648) (h3 : 0 ≤ a2) (h4 : a2 ≤ a1 - a0) :
    Calls Try.prog 5 #[.int .i64 a0, .int .i64 a1, .int .i64 a2] w fun e w' => e = .returned (.bool true) ∧ Below w.heap.size w w' := by
  obtain ⟨q1, q2, q3⟩ := facts a0 a1 a2 h0 h1 h2 h3 h4
  have Q1 := Lib.hid q1
  have Q2 := Lib.hid q2
  have Q3 := Lib.hid q3
  clear q1 q2 q3
  go_enter Try.func5, Try.ntmps5
  go_wp2_with fail
  refine (alive20 _).mono ?_
  rintro e w1 ⟨rfl, hb1⟩
  have HB1 := Lib.hid hb1
  clear hb1
  go_wp2_with fail
  obtain ⟨X, hX⟩ : ∃ X, ((w1.alloc (.cells #[.int .i64 4, .int .i64 0, .int .i64 0, .int .i64 0, .int .i64 0, .int .i64 0, .int .i64 0, .int .i64 a0, .int .i64 a1, .int .i64 0, .int .i64 1] 3)).alloc (.cells #[.slice none 0 0, .int .i64 0, .slice (some ⟨w1.heap.size, 0, none⟩) 11 11, .bool false, .bool false, .slice none 0 0] 43)) = X := ⟨_, rfl⟩
  rw [hX]
  have HBX := Lib.hid (show Below w1.heap.size w1 X by rw [← hX]; exact ((Below.refl _ _).alloc (Nat.le_refl _) _).alloc (by simp) _)
  have FB := Lib.hid (fun w' => box6 w1 w' a0 a1 _ _ X hX)
  clear hX
  refine (vsleep_any _ _ _ _ _ _ _ _ _ (lit11 a0 a1) _ _ (FB.out X (Below.refl _ _)).2.2.2.2.2.2 (by omega)).mono ?_
  rintro e w2 ⟨rfl, hb2⟩
  rw [Q1.out]
  obtain ⟨g0, g1, g2, g3, g4, g5, gi⟩ := FB.out w2 hb2
  have GI := Lib.hid gi
  have HB2 := Lib.hid hb2
  clear gi hb2
  go_wp2_with fail
  refine (skip_any _ _ _ _ 0 0 0 0 11 11 0 false false (lit11 a0 a1) [] [] _ (src_nil _) (fun _ => rfl) (by omega) (src_nil _) (fun _ => rfl) (by omega) GI.out (by omega)).mono ?_
  rintro e w3 ⟨ar, cr, ao, co, g, rfl, _, _, _, _, hrow, hg, hb3⟩
  have HB3 := Lib.hid (btrans HB2.out hb3)
  have HROW := Lib.hid hrow
  clear hrow hb3 g0 g1 g2 g3 g4 g5 GI
  rw [show max 11 11 = 11 from rfl]
  go_wp2_with fail
  refine (vsleep_any _ _ _ _ _ _ _ _ _ (skF (lit11 a0 a1) 11 a2) _ _ (by exact HROW.out.ints.alloc _) (by omega)).mono ?_
  rintro e w4 ⟨rfl, hb4⟩
  rw [Q2.out]
  have HB4 := Lib.hid ((HB3.out.alloc HB3.out.size _).trans (hb4.mono (Nat.le_trans HB3.out.size (by simp))))
  clear hb4 HROW hg
  obtain ⟨g0, g1, g2, g3, g4, g5, gi⟩ := FB.out w4 HB4.out
  have GI := Lib.hid gi
  clear gi
  go_wp2_with fail
  refine (vsleep_any _ _ _ _ _ _ _ _ _ (lit11 a0 a1) _ _ GI.out (by omega)).mono ?_
  rintro e w5 ⟨rfl, hb5⟩
  rw [Q1.out]
  have HB5 := Lib.hid (btrans HB4.out hb5)
  clear hb5 g0 g1 g2 g3 g4 g5 GI
  obtain ⟨g0, g1, g2, g3, g4, g5, gi⟩ := FB.out w5 HB5.out
  have GI := Lib.hid gi
  clear gi
  go_wp2_with fail
  refine (vsleep_any _ _ _ _ _ _ _ _ _ (lit11 a0 a1) _ _ GI.out (by omega)).mono ?_
  rintro e w6 ⟨rfl, hb6⟩
  rw [Q1.out]
  have HB6 := Lib.hid (btrans HB5.out hb6)
  clear hb6 g0 g1 g2 g3 g4 g5 GI
  obtain ⟨g0, g1, g2, g3, g4, g5, gi⟩ := FB.out w6 HB6.out
  have GI := Lib.hid gi
  clear gi
  go_wp2_with fail
  refine (skip_any _ _ _ _ 0 0 0 0 11 11 0 false false (lit11 a0 a1) [] [] _ (src_nil _) (fun _ => rfl) (by omega) (src_nil _) (fun _ => rfl) (by omega) GI.out (by omega)).mono ?_
  rintro e w7 ⟨ar2, cr2, ao2, co2, k2, rfl, _, _, _, _, hrow, hg, hb7⟩
  have HB7 := Lib.hid (btrans HB6.out hb7)
  have HROW := Lib.hid hrow
  clear hrow hb7 g0 g1 g2 g3 g4 g5 GI hg
  rw [show max 11 11 = 11 from rfl]
  go_wp2_with fail
  refine (vpend_any _ _ _ _ _ _ _ _ _ (skF (lit11 a0 a1) 11 (a1 - a0)) _ _ (by exact HROW.out.ints) (by omega)).mono ?_
  rintro e w8 ⟨rfl, hb8⟩
  rw [Q3.out]
  have HB8 := Lib.hid (btrans HB7.out hb8)
  clear hb8 HROW
  go_wp2_with fail
  go_ret
  exact ⟨rfl, (HB1.out.trans (HBX.out.mono HB1.out.size)).trans (HB8.out.mono (Nat.le_trans HB1.out.size HBX.out.size))⟩
theorem walk (a0 : Int) (a1 : Int) (a2 : Int) (w0 : (Lit.int .i64 a0).wf = true) (w1 : (Lit.int .i64 a1).wf = true) (w2 : (Lit.int .i64 a2).wf = true) (w : World) :
    Calls Try.prog 5 #[.int .i64 a0, .int .i64 a1, .int .i64 a2] w fun e w' => e = .returned (.bool true) ∧ Below w.heap.size w w' := by
  by_cases h : 0 ≤ a0 ∧ a0 < a1 ∧ a1 ≤ 2147483648 ∧ 0 ≤ a2 ∧ a2 ≤ a1 - a0
  · obtain ⟨h0, h1, h2, h3, h4⟩ := h
    exact core a0 a1 a2 w h0 h1 h2 h3 h4
  · obtain ⟨l0, u0⟩ := bounds_i64 w0
    obtain ⟨l1, u1⟩ := bounds_i64 w1
    clear w0 w1 w2
    by_cases k0 : a0 < 0
    · go_enter Try.func5, Try.ntmps5
      go_wp2_with fail
      refine (alive20 _).mono ?_
      rintro e w1 ⟨rfl, hb1⟩
      have HB1 := Lib.hid hb1
      clear hb1 h
      go_wp2_with fail
      go_ret
      exact ⟨rfl, HB1.out⟩
    have d0 : decide (a0 < 0) = false := by simp; omega
    by_cases k1 : a1 ≤ a0
    · go_enter Try.func5, Try.ntmps5
      go_wp2_with fail
      refine (alive20 _).mono ?_
      rintro e w1 ⟨rfl, hb1⟩
      have HB1 := Lib.hid hb1
      clear hb1 h
      go_wp2_with fail
      go_ret
      exact ⟨rfl, HB1.out⟩
    have d1 : decide (a1 ≤ a0) = false := by simp; omega
    by_cases k2 : 2147483648 < a1
    · go_enter Try.func5, Try.ntmps5
      go_wp2_with fail
      refine (alive20 _).mono ?_
      rintro e w1 ⟨rfl, hb1⟩
      have HB1 := Lib.hid hb1
      clear hb1 h
      go_wp2_with fail
      go_ret
      exact ⟨rfl, HB1.out⟩
    have d2 : decide (2147483648 < a1) = false := by simp; omega
    by_cases k3 : a2 < 0
    · go_enter Try.func5, Try.ntmps5
      go_wp2_with fail
      refine (alive20 _).mono ?_
      rintro e w1 ⟨rfl, hb1⟩
      have HB1 := Lib.hid hb1
      clear hb1 h
      go_wp2_with fail
      go_ret
      exact ⟨rfl, HB1.out⟩
    have d3 : decide (a2 < 0) = false := by simp; omega
    have k4 : a1 - a0 < a2 := by omega
    go_enter Try.func5, Try.ntmps5
    go_wp2_with fail
    refine (alive20 _).mono ?_
    rintro e w1 ⟨rfl, hb1⟩
    have HB1 := Lib.hid hb1
    clear hb1 h
    go_wp2_with fail
    go_ret
    exact ⟨rfl, HB1.out⟩

set_option maxRecDepth 100000 in
theorem lifted (os : Os) (started : os.Started) (H : Type) (enc : TypeId × Value → H) :
    ReturnsInHanded {} Try.checked os 5 .any (Rows.virqPartsSpec.pre6 enc Try.prog Try.f5 Rows.virqPartsRow.domain false) (Rows.virqPartsSpec.post enc Try.prog Try.f5 false true false false) := by
  refine returnsInHanded_of_change (C := Try.checked) own started (by kernel_rfl) Try.func5
    (ChangeSpec.witness6 (enc := enc) (C := Try.checked) false ⟨#[], #[.int .i64 0, .int .i64 0, .int .i64 0], []⟩ 8 (by kernel_rfl) (by kernel_rfl) (by kernel_rfl) (by kernel_rfl)) ?_
  intro W base args ds gs before hval0 hW hcnd _
  have hval : ∀ (j : Nat) t v, Try.f5.params[j]? = some t → args[j]? = some v → Value.okWide Try.prog W .any base t v := hval0
  have hW' := hW
  obtain ⟨p, q, hA0, hV, rfl, hfz, hnd⟩ := hW
  have hA : DataW.TrodAll enc Try.prog W 0 (fun _ => true) true Try.f5.params.toList args.toList ds p := hA0
  rw [Try.params5] at hA hval
  obtain ⟨v0, vs0, d0, ds0, p0, q0, hargs, rfl, rfl, h0, r0⟩ := trodAll_cons hA
  obtain ⟨v1, vs1, d1, ds1, p1, q1, rfl, rfl, rfl, h1, r1⟩ := trodAll_cons r0
  obtain ⟨v2, vs2, d2, ds2, p2, q2, rfl, rfl, rfl, h2, r2⟩ := trodAll_cons r1
  obtain ⟨rfl, rfl, rfl⟩ := trodAll_nil r2
  obtain rfl : args = #[v0, v1, v2] := by cases args; simp_all
  obtain ⟨rfl, rfl⟩ := trodVars_none hV
  obtain ⟨a0, rfl, rfl, rfl, w0⟩ := open_int Try.underlying3 (hval 0 3 v0 rfl rfl) h0
  obtain ⟨a1, rfl, rfl, rfl, w1⟩ := open_int Try.underlying3 (hval 1 3 v1 rfl rfl) h1
  obtain ⟨a2, rfl, rfl, rfl, w2⟩ := open_int Try.underlying3 (hval 2 3 v2 rfl rfl) h2
  clear hA0 hval0
  simp only [List.append_nil] at hW'
  refine (walk a0 a1 a2 w0 w1 w2 W).mono fun e W' ⟨he, hg⟩ => ?_
  subst he
  exact ⟨_, rfl, _, _, _, [], [], [], hW', (trodAll_cons_mk (shut_bool Try.underlying4 _) trodAll_mk0), (trodAll_cons_mk (shut_int Try.underlying3 w0) (trodAll_cons_mk (shut_int Try.underlying3 w1) (trodAll_cons_mk (shut_int Try.underlying3 w2) trodAll_mk0))), rfl, hg.frame _, fun h => by cases h⟩

theorem over : Rows.virqPartsRow.holds Try.pinned (OpenSpec.ofChange Rows.virqPartsSpec) :=
  OpenClaim.holds_of_wide 5 Try.f5 rfl rfl rfl rfl rfl rfl rfl ⟨rfl, rfl, rfl, rfl, rfl⟩ rfl rfl rfl rfl rfl (by kernel_rfl) Try.func5 (by kernel_rfl)
    (of_decide_eq_true (by kernel_rfl)) (by unfold Func.isWrapper; first | (rw [if_pos (by decide +kernel)]; kernel_rfl) | (rw [if_neg (by decide +kernel)]; exact ⟨rfl, rfl⟩))
    (fun os started H enc _ => lifted os started H enc)

theorem proved : Rows.VirqPartsSaid :=
  over
#print axioms proved
end Go.Proofs.Ytdnmjhkgibaadaa.virqParts
