/- What loads and stores are, and what comes to a register, by package cpu and by the reference: each call returns the plain values that are written there and changes nothing. No conditions. -/
import Derived.Test.YtodkenbkogfefaaCpuRef
namespace Go.Proofs.Ytodkenbkogfefaa
open Go.RowKit

theorem results_tmp4 {fn : Func} {t u v x : Tmp} (h : fn.results = #[.tmp t, .tmp u, .tmp v, .tmp x]) (tmps : Array Value) (P : Program) (w : World) :
    (results fn tmps).run P w = .ok (.tuple #[tmps.getD t undef, tmps.getD u undef, tmps.getD v undef, tmps.getD x undef]) w := by
  simp [results, h]
/-- Of an operation: how many bytes, of which kind, whether with a sign, whether it is one at all. -/
def accT (op : Int) : Int × Int × Bool × Bool :=
  if op = 32 then (4, 1, false, true) else if op = 33 then (2, 1, true, true) else if op = 34 then (2, 1, false, true) else if op = 35 then (1, 1, true, true) else if op = 36 then (1, 1, false, true) else if op = 40 then (4, 2, false, true) else if op = 41 then (2, 2, false, true) else if op = 42 then (1, 2, false, true) else (0, 0, false, false)
def loadedI (op v : Int) : Int := if op = 33 then ext v 16 else if op = 35 then ext v 8 else if op = 32 ∨ op = 34 ∨ op = 36 then W v else 0
theorem acc_cases (op : Int) : (op < 32 ∨ (36 < op ∧ op < 40) ∨ 42 < op) ∨ op = 32 ∨ op = 33 ∨ op = 34 ∨ op = 35 ∨ op = 36 ∨ op = 40 ∨ op = 41 ∨ op = 42 := by omega
theorem acc_no (op : Int) (h : op < 32 ∨ (36 < op ∧ op < 40) ∨ 42 < op) : accT op = (0, 0, false, false) := by
  unfold accT
  rw [if_neg (by omega), if_neg (by omega), if_neg (by omega), if_neg (by omega), if_neg (by omega), if_neg (by omega), if_neg (by omega), if_neg (by omega)]
theorem access_32 (w : World) : Calls Try.prog 12 #[.int .i64 32] w fun e w' => e = .returned (.tuple #[.int .i64 4, .int .i64 1, .bool false, .bool true]) ∧ w = w' := by
  have i0 : ∀ w, (Instr.index 45 (.agg #[.int .i64 4, .int .i64 2, .int .i64 2, .int .i64 1, .int .i64 1]) (.int .i64 0)).run Try.prog w = .ok (.int .i64 4) w := fun _ => by kernel_rfl
  go_enter Try.func12, Try.ntmps12
  go_wp2
  (try simp only [Exit.inBlock, Exit.then])
  refine bodyPost_ret (results_tmp4 rfl _ _ _) rfl ?_
  exact ⟨rfl, rfl⟩
theorem access_33 (w : World) : Calls Try.prog 12 #[.int .i64 33] w fun e w' => e = .returned (.tuple #[.int .i64 2, .int .i64 1, .bool true, .bool true]) ∧ w = w' := by
  have i0 : ∀ w, (Instr.index 45 (.agg #[.int .i64 4, .int .i64 2, .int .i64 2, .int .i64 1, .int .i64 1]) (.int .i64 1)).run Try.prog w = .ok (.int .i64 2) w := fun _ => by kernel_rfl
  go_enter Try.func12, Try.ntmps12
  go_wp2
  (try simp only [Exit.inBlock, Exit.then])
  refine bodyPost_ret (results_tmp4 rfl _ _ _) rfl ?_
  exact ⟨rfl, rfl⟩
theorem access_34 (w : World) : Calls Try.prog 12 #[.int .i64 34] w fun e w' => e = .returned (.tuple #[.int .i64 2, .int .i64 1, .bool false, .bool true]) ∧ w = w' := by
  have i0 : ∀ w, (Instr.index 45 (.agg #[.int .i64 4, .int .i64 2, .int .i64 2, .int .i64 1, .int .i64 1]) (.int .i64 2)).run Try.prog w = .ok (.int .i64 2) w := fun _ => by kernel_rfl
  go_enter Try.func12, Try.ntmps12
  go_wp2
  (try simp only [Exit.inBlock, Exit.then])
  refine bodyPost_ret (results_tmp4 rfl _ _ _) rfl ?_
  exact ⟨rfl, rfl⟩
theorem access_35 (w : World) : Calls Try.prog 12 #[.int .i64 35] w fun e w' => e = .returned (.tuple #[.int .i64 1, .int .i64 1, .bool true, .bool true]) ∧ w = w' := by
  have i0 : ∀ w, (Instr.index 45 (.agg #[.int .i64 4, .int .i64 2, .int .i64 2, .int .i64 1, .int .i64 1]) (.int .i64 3)).run Try.prog w = .ok (.int .i64 1) w := fun _ => by kernel_rfl
  go_enter Try.func12, Try.ntmps12
  go_wp2
  (try simp only [Exit.inBlock, Exit.then])
  refine bodyPost_ret (results_tmp4 rfl _ _ _) rfl ?_
  exact ⟨rfl, rfl⟩
theorem access_36 (w : World) : Calls Try.prog 12 #[.int .i64 36] w fun e w' => e = .returned (.tuple #[.int .i64 1, .int .i64 1, .bool false, .bool true]) ∧ w = w' := by
  have i0 : ∀ w, (Instr.index 45 (.agg #[.int .i64 4, .int .i64 2, .int .i64 2, .int .i64 1, .int .i64 1]) (.int .i64 4)).run Try.prog w = .ok (.int .i64 1) w := fun _ => by kernel_rfl
  go_enter Try.func12, Try.ntmps12
  go_wp2
  (try simp only [Exit.inBlock, Exit.then])
  refine bodyPost_ret (results_tmp4 rfl _ _ _) rfl ?_
  exact ⟨rfl, rfl⟩
theorem access_40 (w : World) : Calls Try.prog 12 #[.int .i64 40] w fun e w' => e = .returned (.tuple #[.int .i64 4, .int .i64 2, .bool false, .bool true]) ∧ w = w' := by
  have i0 : ∀ w, (Instr.index 46 (.agg #[.int .i64 4, .int .i64 2, .int .i64 1]) (.int .i64 0)).run Try.prog w = .ok (.int .i64 4) w := fun _ => by kernel_rfl
  go_enter Try.func12, Try.ntmps12
  go_wp2
  (try simp only [Exit.inBlock, Exit.then])
  refine bodyPost_ret (results_tmp4 rfl _ _ _) rfl ?_
  exact ⟨rfl, rfl⟩
theorem access_41 (w : World) : Calls Try.prog 12 #[.int .i64 41] w fun e w' => e = .returned (.tuple #[.int .i64 2, .int .i64 2, .bool false, .bool true]) ∧ w = w' := by
  have i0 : ∀ w, (Instr.index 46 (.agg #[.int .i64 4, .int .i64 2, .int .i64 1]) (.int .i64 1)).run Try.prog w = .ok (.int .i64 2) w := fun _ => by kernel_rfl
  go_enter Try.func12, Try.ntmps12
  go_wp2
  (try simp only [Exit.inBlock, Exit.then])
  refine bodyPost_ret (results_tmp4 rfl _ _ _) rfl ?_
  exact ⟨rfl, rfl⟩
theorem access_42 (w : World) : Calls Try.prog 12 #[.int .i64 42] w fun e w' => e = .returned (.tuple #[.int .i64 1, .int .i64 2, .bool false, .bool true]) ∧ w = w' := by
  have i0 : ∀ w, (Instr.index 46 (.agg #[.int .i64 4, .int .i64 2, .int .i64 1]) (.int .i64 2)).run Try.prog w = .ok (.int .i64 1) w := fun _ => by kernel_rfl
  go_enter Try.func12, Try.ntmps12
  go_wp2
  (try simp only [Exit.inBlock, Exit.then])
  refine bodyPost_ret (results_tmp4 rfl _ _ _) rfl ?_
  exact ⟨rfl, rfl⟩
theorem access_no (op : Int) (w : World) (h : op < 32 ∨ (36 < op ∧ op < 40) ∨ 42 < op) : Calls Try.prog 12 #[.int .i64 op] w fun e w' => e = .returned (.tuple #[.int .i64 0, .int .i64 0, .bool false, .bool false]) ∧ w = w' := by
  rcases h with h | ⟨h, h2⟩ | h
  all_goals
    go_enter Try.func12, Try.ntmps12
    go_wp2
    (try simp only [Exit.inBlock, Exit.then])
    refine bodyPost_ret (results_tmp4 rfl _ _ _) rfl ?_
    exact ⟨rfl, rfl⟩
theorem access_any (op : Int) (w : World) : Calls Try.prog 12 #[.int .i64 op] w fun e w' => e = .returned (.tuple #[.int .i64 (accT op).1, .int .i64 (accT op).2.1, .bool (accT op).2.2.1, .bool (accT op).2.2.2]) ∧ w = w' := by
  rcases acc_cases op with h | rfl | rfl | rfl | rfl | rfl | rfl | rfl | rfl
  · rw [acc_no op h]; exact access_no op w h
  · exact access_32 w
  · exact access_33 w
  · exact access_34 w
  · exact access_35 w
  · exact access_36 w
  · exact access_40 w
  · exact access_41 w
  · exact access_42 w
theorem refAccess_32 (w : World) : Calls Try.prog 13 #[.int .i64 32] w fun e w' => e = .returned (.tuple #[.int .i64 4, .int .i64 1, .bool false, .bool true]) ∧ w = w' := by
  go_enter Try.func13, Try.ntmps13
  go_wp2
  (try simp only [Exit.inBlock, Exit.then])
  refine bodyPost_ret (results_tmp4 rfl _ _ _) rfl ?_
  exact ⟨rfl, rfl⟩
theorem refAccess_33 (w : World) : Calls Try.prog 13 #[.int .i64 33] w fun e w' => e = .returned (.tuple #[.int .i64 2, .int .i64 1, .bool true, .bool true]) ∧ w = w' := by
  go_enter Try.func13, Try.ntmps13
  go_wp2
  (try simp only [Exit.inBlock, Exit.then])
  refine bodyPost_ret (results_tmp4 rfl _ _ _) rfl ?_
  exact ⟨rfl, rfl⟩
theorem refAccess_34 (w : World) : Calls Try.prog 13 #[.int .i64 34] w fun e w' => e = .returned (.tuple #[.int .i64 2, .int .i64 1, .bool false, .bool true]) ∧ w = w' := by
  go_enter Try.func13, Try.ntmps13
  go_wp2
  (try simp only [Exit.inBlock, Exit.then])
  refine bodyPost_ret (results_tmp4 rfl _ _ _) rfl ?_
  exact ⟨rfl, rfl⟩
theorem refAccess_35 (w : World) : Calls Try.prog 13 #[.int .i64 35] w fun e w' => e = .returned (.tuple #[.int .i64 1, .int .i64 1, .bool true, .bool true]) ∧ w = w' := by
  go_enter Try.func13, Try.ntmps13
  go_wp2
  (try simp only [Exit.inBlock, Exit.then])
  refine bodyPost_ret (results_tmp4 rfl _ _ _) rfl ?_
  exact ⟨rfl, rfl⟩
theorem refAccess_36 (w : World) : Calls Try.prog 13 #[.int .i64 36] w fun e w' => e = .returned (.tuple #[.int .i64 1, .int .i64 1, .bool false, .bool true]) ∧ w = w' := by
  go_enter Try.func13, Try.ntmps13
  go_wp2
  (try simp only [Exit.inBlock, Exit.then])
  refine bodyPost_ret (results_tmp4 rfl _ _ _) rfl ?_
  exact ⟨rfl, rfl⟩
theorem refAccess_40 (w : World) : Calls Try.prog 13 #[.int .i64 40] w fun e w' => e = .returned (.tuple #[.int .i64 4, .int .i64 2, .bool false, .bool true]) ∧ w = w' := by
  go_enter Try.func13, Try.ntmps13
  go_wp2
  (try simp only [Exit.inBlock, Exit.then])
  refine bodyPost_ret (results_tmp4 rfl _ _ _) rfl ?_
  exact ⟨rfl, rfl⟩
theorem refAccess_41 (w : World) : Calls Try.prog 13 #[.int .i64 41] w fun e w' => e = .returned (.tuple #[.int .i64 2, .int .i64 2, .bool false, .bool true]) ∧ w = w' := by
  go_enter Try.func13, Try.ntmps13
  go_wp2
  (try simp only [Exit.inBlock, Exit.then])
  refine bodyPost_ret (results_tmp4 rfl _ _ _) rfl ?_
  exact ⟨rfl, rfl⟩
theorem refAccess_42 (w : World) : Calls Try.prog 13 #[.int .i64 42] w fun e w' => e = .returned (.tuple #[.int .i64 1, .int .i64 2, .bool false, .bool true]) ∧ w = w' := by
  go_enter Try.func13, Try.ntmps13
  go_wp2
  (try simp only [Exit.inBlock, Exit.then])
  refine bodyPost_ret (results_tmp4 rfl _ _ _) rfl ?_
  exact ⟨rfl, rfl⟩
theorem refAccess_no (op : Int) (w : World) (h : op < 32 ∨ (36 < op ∧ op < 40) ∨ 42 < op) : Calls Try.prog 13 #[.int .i64 op] w fun e w' => e = .returned (.tuple #[.int .i64 0, .int .i64 0, .bool false, .bool false]) ∧ w = w' := by
  rcases h with h | ⟨h, h2⟩ | h
  all_goals
    go_enter Try.func13, Try.ntmps13
    go_wp2
    (try simp only [Exit.inBlock, Exit.then])
    refine bodyPost_ret (results_tmp4 rfl _ _ _) rfl ?_
    exact ⟨rfl, rfl⟩
theorem refAccess_any (op : Int) (w : World) : Calls Try.prog 13 #[.int .i64 op] w fun e w' => e = .returned (.tuple #[.int .i64 (accT op).1, .int .i64 (accT op).2.1, .bool (accT op).2.2.1, .bool (accT op).2.2.2]) ∧ w = w' := by
  rcases acc_cases op with h | rfl | rfl | rfl | rfl | rfl | rfl | rfl | rfl
  · rw [acc_no op h]; exact refAccess_no op w h
  · exact refAccess_32 w
  · exact refAccess_33 w
  · exact refAccess_34 w
  · exact refAccess_35 w
  · exact refAccess_36 w
  · exact refAccess_40 w
  · exact refAccess_41 w
  · exact refAccess_42 w
theorem loaded_32 (v : Int) (w : World) : Calls Try.prog 14 #[.int .i64 32, .int .i64 v] w fun e w' => e = .returned (.int .i64 (W v)) ∧ w = w' := by
  go_enter Try.func14, Try.ntmps14
  go_wp2_with (first | (go_at_call 12; refine (access_32 _).mono ?_; rintro e w' ⟨rfl, rfl⟩) | (go_at_call 32; refine (extend_any _ _ _).mono ?_; rintro e w' ⟨rfl, rfl⟩) | (go_at_call 33; refine (of_any _ _).mono ?_; rintro e w' ⟨rfl, rfl⟩))
  go_ret
  exact ⟨rfl, rfl⟩
theorem refLoaded_32 (v : Int) (w : World) : Calls Try.prog 15 #[.int .i64 32, .int .i64 v] w fun e w' => e = .returned (.int .i64 (W v)) ∧ w = w' := by
  go_enter Try.func15, Try.ntmps15
  go_wp2_with (first | (go_at_call 34; refine (refExtend_any _ _ _).mono ?_; rintro e w' ⟨rfl, rfl⟩) | (go_at_call 17; refine (refW_any _ _).mono ?_; rintro e w' ⟨rfl, rfl⟩))
  go_ret
  exact ⟨rfl, rfl⟩
theorem loaded_33 (v : Int) (w : World) : Calls Try.prog 14 #[.int .i64 33, .int .i64 v] w fun e w' => e = .returned (.int .i64 (ext v 16)) ∧ w = w' := by
  go_enter Try.func14, Try.ntmps14
  go_wp2_with (first | (go_at_call 12; refine (access_33 _).mono ?_; rintro e w' ⟨rfl, rfl⟩) | (go_at_call 32; refine (extend_any _ _ _).mono ?_; rintro e w' ⟨rfl, rfl⟩) | (go_at_call 33; refine (of_any _ _).mono ?_; rintro e w' ⟨rfl, rfl⟩))
  go_ret
  exact ⟨rfl, rfl⟩
theorem refLoaded_33 (v : Int) (w : World) : Calls Try.prog 15 #[.int .i64 33, .int .i64 v] w fun e w' => e = .returned (.int .i64 (ext v 16)) ∧ w = w' := by
  go_enter Try.func15, Try.ntmps15
  go_wp2_with (first | (go_at_call 34; refine (refExtend_any _ _ _).mono ?_; rintro e w' ⟨rfl, rfl⟩) | (go_at_call 17; refine (refW_any _ _).mono ?_; rintro e w' ⟨rfl, rfl⟩))
  go_ret
  exact ⟨rfl, rfl⟩
theorem loaded_34 (v : Int) (w : World) : Calls Try.prog 14 #[.int .i64 34, .int .i64 v] w fun e w' => e = .returned (.int .i64 (W v)) ∧ w = w' := by
  go_enter Try.func14, Try.ntmps14
  go_wp2_with (first | (go_at_call 12; refine (access_34 _).mono ?_; rintro e w' ⟨rfl, rfl⟩) | (go_at_call 32; refine (extend_any _ _ _).mono ?_; rintro e w' ⟨rfl, rfl⟩) | (go_at_call 33; refine (of_any _ _).mono ?_; rintro e w' ⟨rfl, rfl⟩))
  go_ret
  exact ⟨rfl, rfl⟩
theorem refLoaded_34 (v : Int) (w : World) : Calls Try.prog 15 #[.int .i64 34, .int .i64 v] w fun e w' => e = .returned (.int .i64 (W v)) ∧ w = w' := by
  go_enter Try.func15, Try.ntmps15
  go_wp2_with (first | (go_at_call 34; refine (refExtend_any _ _ _).mono ?_; rintro e w' ⟨rfl, rfl⟩) | (go_at_call 17; refine (refW_any _ _).mono ?_; rintro e w' ⟨rfl, rfl⟩))
  go_ret
  exact ⟨rfl, rfl⟩
theorem loaded_35 (v : Int) (w : World) : Calls Try.prog 14 #[.int .i64 35, .int .i64 v] w fun e w' => e = .returned (.int .i64 (ext v 8)) ∧ w = w' := by
  go_enter Try.func14, Try.ntmps14
  go_wp2_with (first | (go_at_call 12; refine (access_35 _).mono ?_; rintro e w' ⟨rfl, rfl⟩) | (go_at_call 32; refine (extend_any _ _ _).mono ?_; rintro e w' ⟨rfl, rfl⟩) | (go_at_call 33; refine (of_any _ _).mono ?_; rintro e w' ⟨rfl, rfl⟩))
  go_ret
  exact ⟨rfl, rfl⟩
theorem refLoaded_35 (v : Int) (w : World) : Calls Try.prog 15 #[.int .i64 35, .int .i64 v] w fun e w' => e = .returned (.int .i64 (ext v 8)) ∧ w = w' := by
  go_enter Try.func15, Try.ntmps15
  go_wp2_with (first | (go_at_call 34; refine (refExtend_any _ _ _).mono ?_; rintro e w' ⟨rfl, rfl⟩) | (go_at_call 17; refine (refW_any _ _).mono ?_; rintro e w' ⟨rfl, rfl⟩))
  go_ret
  exact ⟨rfl, rfl⟩
theorem loaded_36 (v : Int) (w : World) : Calls Try.prog 14 #[.int .i64 36, .int .i64 v] w fun e w' => e = .returned (.int .i64 (W v)) ∧ w = w' := by
  go_enter Try.func14, Try.ntmps14
  go_wp2_with (first | (go_at_call 12; refine (access_36 _).mono ?_; rintro e w' ⟨rfl, rfl⟩) | (go_at_call 32; refine (extend_any _ _ _).mono ?_; rintro e w' ⟨rfl, rfl⟩) | (go_at_call 33; refine (of_any _ _).mono ?_; rintro e w' ⟨rfl, rfl⟩))
  go_ret
  exact ⟨rfl, rfl⟩
theorem refLoaded_36 (v : Int) (w : World) : Calls Try.prog 15 #[.int .i64 36, .int .i64 v] w fun e w' => e = .returned (.int .i64 (W v)) ∧ w = w' := by
  go_enter Try.func15, Try.ntmps15
  go_wp2_with (first | (go_at_call 34; refine (refExtend_any _ _ _).mono ?_; rintro e w' ⟨rfl, rfl⟩) | (go_at_call 17; refine (refW_any _ _).mono ?_; rintro e w' ⟨rfl, rfl⟩))
  go_ret
  exact ⟨rfl, rfl⟩
theorem loaded_40 (v : Int) (w : World) : Calls Try.prog 14 #[.int .i64 40, .int .i64 v] w fun e w' => e = .returned (.int .i64 (0)) ∧ w = w' := by
  go_enter Try.func14, Try.ntmps14
  go_wp2_with (first | (go_at_call 12; refine (access_40 _).mono ?_; rintro e w' ⟨rfl, rfl⟩) | (go_at_call 32; refine (extend_any _ _ _).mono ?_; rintro e w' ⟨rfl, rfl⟩) | (go_at_call 33; refine (of_any _ _).mono ?_; rintro e w' ⟨rfl, rfl⟩))
  go_ret
  exact ⟨rfl, rfl⟩
theorem refLoaded_40 (v : Int) (w : World) : Calls Try.prog 15 #[.int .i64 40, .int .i64 v] w fun e w' => e = .returned (.int .i64 (0)) ∧ w = w' := by
  go_enter Try.func15, Try.ntmps15
  go_wp2_with (first | (go_at_call 34; refine (refExtend_any _ _ _).mono ?_; rintro e w' ⟨rfl, rfl⟩) | (go_at_call 17; refine (refW_any _ _).mono ?_; rintro e w' ⟨rfl, rfl⟩))
  go_ret
  exact ⟨rfl, rfl⟩
theorem loaded_41 (v : Int) (w : World) : Calls Try.prog 14 #[.int .i64 41, .int .i64 v] w fun e w' => e = .returned (.int .i64 (0)) ∧ w = w' := by
  go_enter Try.func14, Try.ntmps14
  go_wp2_with (first | (go_at_call 12; refine (access_41 _).mono ?_; rintro e w' ⟨rfl, rfl⟩) | (go_at_call 32; refine (extend_any _ _ _).mono ?_; rintro e w' ⟨rfl, rfl⟩) | (go_at_call 33; refine (of_any _ _).mono ?_; rintro e w' ⟨rfl, rfl⟩))
  go_ret
  exact ⟨rfl, rfl⟩
theorem refLoaded_41 (v : Int) (w : World) : Calls Try.prog 15 #[.int .i64 41, .int .i64 v] w fun e w' => e = .returned (.int .i64 (0)) ∧ w = w' := by
  go_enter Try.func15, Try.ntmps15
  go_wp2_with (first | (go_at_call 34; refine (refExtend_any _ _ _).mono ?_; rintro e w' ⟨rfl, rfl⟩) | (go_at_call 17; refine (refW_any _ _).mono ?_; rintro e w' ⟨rfl, rfl⟩))
  go_ret
  exact ⟨rfl, rfl⟩
theorem loaded_42 (v : Int) (w : World) : Calls Try.prog 14 #[.int .i64 42, .int .i64 v] w fun e w' => e = .returned (.int .i64 (0)) ∧ w = w' := by
  go_enter Try.func14, Try.ntmps14
  go_wp2_with (first | (go_at_call 12; refine (access_42 _).mono ?_; rintro e w' ⟨rfl, rfl⟩) | (go_at_call 32; refine (extend_any _ _ _).mono ?_; rintro e w' ⟨rfl, rfl⟩) | (go_at_call 33; refine (of_any _ _).mono ?_; rintro e w' ⟨rfl, rfl⟩))
  go_ret
  exact ⟨rfl, rfl⟩
theorem refLoaded_42 (v : Int) (w : World) : Calls Try.prog 15 #[.int .i64 42, .int .i64 v] w fun e w' => e = .returned (.int .i64 (0)) ∧ w = w' := by
  go_enter Try.func15, Try.ntmps15
  go_wp2_with (first | (go_at_call 34; refine (refExtend_any _ _ _).mono ?_; rintro e w' ⟨rfl, rfl⟩) | (go_at_call 17; refine (refW_any _ _).mono ?_; rintro e w' ⟨rfl, rfl⟩))
  go_ret
  exact ⟨rfl, rfl⟩
theorem loaded_no (op v : Int) (w : World) (h : op < 32 ∨ (36 < op ∧ op < 40) ∨ 42 < op) : Calls Try.prog 14 #[.int .i64 op, .int .i64 v] w fun e w' => e = .returned (.int .i64 0) ∧ w = w' := by
  go_enter Try.func14, Try.ntmps14
  go_wp2_with (go_at_call 12; refine (access_no _ _ h).mono ?_; rintro e w' ⟨rfl, rfl⟩)
  go_ret
  exact ⟨rfl, rfl⟩
theorem refLoaded_no (op v : Int) (w : World) (h : op < 32 ∨ (36 < op ∧ op < 40) ∨ 42 < op) : Calls Try.prog 15 #[.int .i64 op, .int .i64 v] w fun e w' => e = .returned (.int .i64 0) ∧ w = w' := by
  rcases h with h | ⟨h, h2⟩ | h
  all_goals
    go_enter Try.func15, Try.ntmps15
    go_wp2_with fail
    go_ret
    exact ⟨rfl, rfl⟩
theorem loadedI_no (op v : Int) (h : op < 32 ∨ (36 < op ∧ op < 40) ∨ 42 < op) : loadedI op v = 0 := by
  unfold loadedI
  rw [if_neg (by omega), if_neg (by omega), if_neg (by omega)]
theorem loaded_any (op v : Int) (w : World) : Calls Try.prog 14 #[.int .i64 op, .int .i64 v] w fun e w' => e = .returned (.int .i64 (loadedI op v)) ∧ w = w' := by
  rcases acc_cases op with h | rfl | rfl | rfl | rfl | rfl | rfl | rfl | rfl
  · rw [loadedI_no op v h]; exact loaded_no op v w h
  · exact loaded_32 v w
  · exact loaded_33 v w
  · exact loaded_34 v w
  · exact loaded_35 v w
  · exact loaded_36 v w
  · exact loaded_40 v w
  · exact loaded_41 v w
  · exact loaded_42 v w
theorem refLoaded_any (op v : Int) (w : World) : Calls Try.prog 15 #[.int .i64 op, .int .i64 v] w fun e w' => e = .returned (.int .i64 (loadedI op v)) ∧ w = w' := by
  rcases acc_cases op with h | rfl | rfl | rfl | rfl | rfl | rfl | rfl | rfl
  · rw [loadedI_no op v h]; exact refLoaded_no op v w h
  · exact refLoaded_32 v w
  · exact refLoaded_33 v w
  · exact refLoaded_34 v w
  · exact refLoaded_35 v w
  · exact refLoaded_36 v w
  · exact refLoaded_40 v w
  · exact refLoaded_41 v w
  · exact refLoaded_42 v w
theorem alive9 (w : World) : Calls Try.prog 11 #[] w fun e w' => e = .returned (.bool true) ∧ Below w.heap.size w w' := by
  have h1 : aluV 2 1 2 = 4294967295 := by decide
  have h2 : aluB 2 = true := by decide
  have h3 : loadedI 35 128 = 4294967168 := by decide
  go_enter Try.func11, Try.ntmps11
  go_wp2_with (first | (go_at_call 16; refine (alu_any _ _ _ _).mono ?_; rintro e w' ⟨rfl, hbe⟩) | (go_at_call 14; refine (loaded_any _ _ _).mono ?_; rintro e w' ⟨rfl, rfl⟩))
  go_ret
  exact ⟨rfl, hbe⟩
end Go.Proofs.Ytodkenbkogfefaa
