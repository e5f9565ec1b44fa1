/- Proved: the Go law 'trunnionlaw7.UartPlays' returns true for every input and leaves its arguments as they were (the given statement Rows.UartPlaysSaid). No conditions. -/
import Derived.Test.YtfhgdhkadhhjoaaRows
import Derived.Test.YtfhgdhkadhhjoaaOpenA
import Derived.Test.YtfhgdhkadhhjoaaUartAny
import Derived.WalkKit
import Derived.ProofKit
import Derived.OpenShut
import Derived.ShutString
import Derived.ChangeOld
import Derived.Below
namespace Go.Proofs.Ytfhgdhkadhhjoaa.uartPlays
open Go.ChangeShapes Go.WideShapes Go.ChangeAt Go.RowKit
set_option linter.unusedVariables false

theorem own : ownKnob Try.prog.godebug = none := by kernel_rfl
theorem laidOut : laidOutB Try.prog = true := by kernel_rfl

theorem stp_ud {B : Nat} {S : Nat → Prop} {w w' : World} {c c' : Nat → Nat} (h : Stp B S w.drew c w' c') : Stp B S w c w' c' := ⟨h.os, h.tape, h.output, h.size, h.col, h.block⟩
theorem stp_bl {w w' : World} {c c' : Nat → Nat} {B : Nat} (h : Stp B (fun _ => False) w c w' c') : Below w.heap.size w w' := ⟨h.os, h.tape, h.output, h.size, fun k hk => h.block k hk (.inr (fun h => h))⟩
theorem cell_b {w wr : World} {B : Nat} (hb : Below B w wr) (hB : w.heap.size ≤ B) : ∀ a v, w.cell? a = some v → wr.cell? a = some v := fun a v hv => (hb.cell (Nat.lt_of_lt_of_le (World.block_lt_of_cell? w a hv) hB)).trans hv
def PRel (w : World) (B u o r n : Nat) (i : Value) (wr : World) : Prop :=
  ∃ (k : Nat) (c : Nat → Nat) (I O I2 O2 : List Int), k ≤ n ∧ i = .int .i64 (k : Int) ∧ UA wr c 0 B u I O ∧ UA wr c 1 B o I2 O2 ∧ UA wr c 2 B r I O ∧ I.length ≤ 16 ∧ I2.length ≤ 16 ∧ O.length ≤ k ∧ O2.length ≤ k ∧ Byt I ∧ Byt I2 ∧ Byt O ∧ Below B w wr
def QRel (w : World) (B u r : Nat) (I O : List Int) (A : Option Addr) (m cap : Nat) (i : Value) (wr : World) : Prop :=
  ∃ (k : Nat) (c : Nat → Nat) (ys : List Int), k ≤ m ∧ i = .int .i64 (k : Int) ∧ UA wr c 0 B u I O ∧ UA wr c 2 B r I O ∧ Own wr c 12 B (.slice A m cap) (by8 ys) ∧ ys.length = m ∧ Below B w wr
theorem prel_drewN {w : World} {B u o r n : Nat} {i : Value} {wr : World} (h : PRel w B u o r n i wr) (m : Nat) : PRel w B u o r n i (wr.drewN m) := by
  obtain ⟨k, c, I, O, I2, O2, h1, h2, h3, h4, h5, h6, h7, h8, h9, h10, h11, h12, h13⟩ := h
  exact ⟨k, c, I, O, I2, O2, h1, h2, h3, h4, h5, h6, h7, h8, h9, h10, h11, h12, below_drewN h13 m⟩
theorem start3 (w w1 : World) (n : Nat) (hb : Below w.heap.size w w1) : PRel w w.heap.size w1.heap.size (w1.heap.size + 1) (w1.heap.size + 1 + 1) n (.int .i64 0) (((w1.alloc (.cells #[.slice none 0 0, .slice none 0 0] 27)).alloc (.cells #[.slice none 0 0, .slice none 0 0] 27)).alloc (.cells #[.slice none 0 0, .slice none 0 0] 38)) := by
  obtain ⟨c1, a1, s1⟩ := ua_new w1 (fun _ => 9) 0 w.heap.size 27 hb.size
  obtain ⟨c2, a2, s2⟩ := ua_new (w1.alloc (.cells #[.slice none 0 0, .slice none 0 0] 27)) c1 1 w.heap.size 27 (Nat.le_trans hb.size (by simp))
  obtain ⟨c3, a3, s3⟩ := ua_new ((w1.alloc (.cells #[.slice none 0 0, .slice none 0 0] 27)).alloc (.cells #[.slice none 0 0, .slice none 0 0] 27)) c2 2 w.heap.size 38 (Nat.le_trans hb.size (by simp; omega))
  simp only [World.size_alloc] at a2 a3
  refine ⟨0, c3, [], [], [], [], Nat.zero_le _, rfl, (a1.step s2 (fun d hd => by omega)).step s3 (fun d hd => by omega), a2.step s3 (fun d hd => by omega), a3, by simp, by simp, by simp, by simp, byt_nil, byt_nil, byt_nil, ?_⟩
  exact ((hb.alloc hb.size _).alloc (Nat.le_trans hb.size (by simp)) _).alloc (Nat.le_trans hb.size (by simp; omega)) _
set_option maxRecDepth 100000 in
set_option maxHeartbeats 8000000 in
theorem core (AA : Option Addr) (nn cp : Nat) (w : World) (ra : ActsAt w AA nn) (h300 : nn ≤ 300) :
    Calls Try.prog 4 #[.slice AA nn cp] w fun e w' => e = .returned (.bool true) ∧ Below w.heap.size w w' := by
  have d300 : (nn : Int) ≤ 300 := by omega
  have RA := Lib.hid ra
  clear ra
  go_enter Try.func4, Try.ntmps4
  go_wp2_with fail
  refine (alive7 _).mono ?_
  rintro e w1 ⟨rfl, hb1⟩
  have H0 := Lib.hid (start3 w w1 nn hb1)
  clear hb1
  go_wp2_with fail
  obtain ⟨B, hB⟩ : ∃ B, w.heap.size = B := ⟨_, rfl⟩
  have HBB := Lib.hid hB
  rw [hB] at H0
  clear hB
  obtain ⟨u, o, r, hu, ho, hr⟩ : ∃ u o r, w1.heap.size = u ∧ w1.heap.size + 1 = o ∧ w1.heap.size + 1 + 1 = r := ⟨_, _, _, rfl, rfl, rfl⟩
  rw [hr, ho, hu] at H0
  rw [hr, ho, hu]
  clear ho hr hu
  go_loopw [7] (PRel w B u o r nn) (fun i _ => nn - (intOf i).toNat)
  case atStart => exact H0.out
  case round =>
    clear H0
    obtain ⟨k, c, I, O, I2, O2, hk, rfl, hu, ho, hr, hI, hI2, hO, hO2, yI, yI2, yO, hb⟩ := hrel
    have hBw := Nat.le_trans (Nat.le_of_eq HBB.out.symm) hb.size
    by_cases hlt : k < nn
    · obtain ⟨b, off, x, y, z, hA, q0, q1, q2⟩ := RA.out k hlt
      subst hA
      have hbl := World.block_lt_of_cell? _ _ q0
      have cb := cell_b hb (Nat.le_of_eq HBB.out)
      have c0 := cb _ _ q0
      have c1 := cb _ _ q1
      have c2 := cb _ _ q2
      obtain ⟨cN, hP, hsN⟩ := pl_new (x := x) (y := y) (z := z) wr hu ho hr 40
      have i1 : (0 : Int) ≤ (k : Int) := by omega
      have i2 : (k : Int) < (nn : Int) := by omega
      have HP := Lib.hid hP
      have Hb := Lib.hid hb
      have HL := Lib.hid hsN
      clear cb q0 q1 q2 hu ho hr hP hsN hb hbl
      go_wp2_with fail
      obtain ⟨W2, hW2⟩ : ∃ W2, (wr.alloc (.cells #[.int .i64 x, .int .i64 y, .int .i64 z] 40)) = W2 := ⟨_, rfl⟩
      rw [hW2] at HP HL
      rw [hW2]
      have Hb2 := Lib.hid (Hb.out.trans (HL.out.below hBw))
      have hB2 : B ≤ W2.heap.size := Nat.le_trans hBw HL.out.size
      clear hW2 c0 c1 c2
      obtain ⟨ab, hab⟩ : ∃ ab, wr.heap.size = ab := ⟨_, rfl⟩
      rw [hab] at HP
      rw [hab]
      clear hab
      refine (in_any _ cN 1 B o I2 O2 _ hB2 HP.out.2.1).mono ?_
      rintro e w3 ⟨rfl, c3, hu3, hs3⟩
      have HP3 := Lib.hid (HP.out.s1 hu3 hs3)
      have Hb3 := Lib.hid (Hb2.out.trans (hs3.below hB2))
      have hB3 : B ≤ w3.heap.size := Nat.le_trans hB2 hs3.size
      clear hu3 hs3
      go_wp2_with fail
      refine (store_any _ c3 1 B o (inI I2 k) O2 0 _ hB3 HP3.out.2.1 (by omega)).mono ?_
      rintro e w4 ⟨rfl, c4, hu4, hs4⟩
      have HP4 := Lib.hid (HP3.out.s1 hu4 hs4)
      have Hb4 := Lib.hid (Hb3.out.trans (hs4.below hB3))
      have hB4 : B ≤ w4.heap.size := Nat.le_trans hB3 hs4.size
      clear hu4 hs4 HP HP3 Hb2 Hb3 HL
      obtain ⟨_, _, _, _, _, x0, x1, x2⟩ := HP4.out
      have hx : x = 0 ∨ x = 1 ∨ x = 2 ∨ ((x == 0) = false ∧ (x == 1) = false ∧ (x == 2) = false) := by
        by_cases h0 : x = 0
        · exact .inl h0
        by_cases h1 : x = 1
        · exact .inr (.inl h1)
        by_cases h2 : x = 2
        · exact .inr (.inr (.inl h2))
        · exact .inr (.inr (.inr ⟨by simpa using h0, by simpa using h1, by simpa using h2⟩))
      rcases hx with rfl | rfl | rfl | ⟨n0, n1, n2⟩
      · go_wp2_with fail
        go_region_held3 (fun w' => w'.cell? ⟨ab, 2, none⟩ = some (.int .i64 z)) (first | (with_reducible assumption) | exact HP4.out.2.2.2.2.2.2.2 | exact HP6.out.2.2.2.2.2.2.2 | exact HP5.out.2.2.2.2.2.2.2)
          (first
            | (go_at_call 6; go_must (refine (in_any _ c4 0 B u I O _ (by exact hB4) (by exact HP4.out.1)).mono ?_; rintro e w5 ⟨rfl, c5, hu5, hs5⟩; have HP5 := Lib.hid (HP4.out.s0 hu5 (stp_ud hs5)); have Hb5 := Lib.hid (Hb4.out.trans ((stp_ud hs5).below hB4)); have hB5 : B ≤ w5.heap.size := Nat.le_trans hB4 hs5.size; clear hu5 hs5))
            | (go_at_call 11; go_must (refine (rin_any _ c5 2 B r I O _ (by exact hB5) (by exact HP5.out.2.2.1)).mono ?_; rintro e w6 ⟨rfl, c6, hu6, hs6⟩; have HP6 := Lib.hid (HP5.out.s2 hu6 hs6); have Hb6 := Lib.hid (Hb5.out.trans (hs6.below hB5)); clear hu6 hs6)))
        clear x0 x1 x2
        obtain ⟨ai, ci, ao, co, p0, p1, _, _⟩ := (show UA w6 c6 2 B r (inI I z) O from HP6.out.2.2.1).reads
        have HFIN := Lib.hid (show PRel w B u o r nn (.int .i64 ((k : Int) + 1)) w6 from ⟨k + 1, c6, (inI I z), O, _, _, by omega, by go_num, HP6.out.1, HP6.out.2.1, HP6.out.2.2.1, (inI_len _ _ hI), inI_len _ _ hI2, (Nat.le_trans hO (by omega)), Nat.le_trans (stO_len _ _ _) (by omega), (byt_inI yI _), byt_inI yI2 _, yO, Hb6.out⟩)
        clear p1
        go_wp2_with fail
        go_quiet ((go_at_call 10; exact quiet_left (waiting_any _ c6 0 B u (inI I z) O (by exact HP6.out.1) (Nat.le_trans (inI_len _ _ hI) (by omega)))))
        go_wp2_with fail
        go_roundw
        case rel =>
          have hnew := prel_drewN HFIN.out nq
          first | exact hnew | ((repeat apply Exists.intro); exact ⟨hnew, rfl⟩)
        case measure => simp [intOf]; omega
      · go_wp2_with fail
        refine (load_any _ c4 0 B u I O _ yI hI HP4.out.1).mono ?_
        rintro e w5 ⟨rfl, c5, hu5, hs5⟩
        have HP5 := Lib.hid (HP4.out.s0 hu5 hs5)
        have Hb5 := Lib.hid (Hb4.out.trans (hs5.below hB4))
        have hB5 : B ≤ w5.heap.size := Nat.le_trans hB4 hs5.size
        clear hu5 hs5 x0 x1 x2
        obtain ⟨_, _, _, _, _, x0, x1, x2⟩ := HP5.out
        go_wp2_with fail
        refine (rload_any _ c5 2 B r I O _ yI hI HP5.out.2.2.1).mono ?_
        rintro e w6 ⟨rfl, c6, hu6, hs6⟩
        have HP6 := Lib.hid (HP5.out.s2 hu6 hs6)
        have Hb6 := Lib.hid (Hb5.out.trans (hs6.below hB5))
        clear hu6 hs6 x0 x1 x2
        obtain ⟨ai, ci, ao, co, p0, p1, _, _⟩ := (show UA w6 c6 2 B r (ldI I y) O from HP6.out.2.2.1).reads
        have HFIN := Lib.hid (show PRel w B u o r nn (.int .i64 ((k : Int) + 1)) w6 from ⟨k + 1, c6, (ldI I y), O, _, _, by omega, by go_num, HP6.out.1, HP6.out.2.1, HP6.out.2.2.1, (ldI_len _ _ hI), inI_len _ _ hI2, (Nat.le_trans hO (by omega)), Nat.le_trans (stO_len _ _ _) (by omega), (byt_ldI yI _), byt_inI yI2 _, yO, Hb6.out⟩)
        clear p1
        go_wp2_with fail
        go_quiet ((go_at_call 10; exact quiet_left (waiting_any _ c6 0 B u (ldI I y) O (by exact HP6.out.1) (Nat.le_trans (ldI_len _ _ hI) (by omega)))))
        go_wp2_with fail
        go_roundw
        case rel =>
          have hnew := prel_drewN HFIN.out nq
          first | exact hnew | ((repeat apply Exists.intro); exact ⟨hnew, rfl⟩)
        case measure => simp [intOf]; omega
      · go_wp2_with fail
        go_region_held3 (fun w' => w'.cell? ⟨ab, 1, none⟩ = some (.int .i64 y) ∧ w'.cell? ⟨ab, 2, none⟩ = some (.int .i64 z)) (first | (with_reducible assumption) | exact HP4.out.2.2.2.2.2.2 | exact HP6.out.2.2.2.2.2.2 | exact HP5.out.2.2.2.2.2.2)
          (first
            | (go_at_call 8; go_must (refine (store_any _ c4 0 B u I O _ _ (by exact hB4) (by exact HP4.out.1) (by omega)).mono ?_; rintro e w5 ⟨rfl, c5, hu5, hs5⟩; have HP5 := Lib.hid (HP4.out.s0 hu5 (stp_ud hs5)); have Hb5 := Lib.hid (Hb4.out.trans ((stp_ud hs5).below hB4)); have hB5 : B ≤ w5.heap.size := Nat.le_trans hB4 hs5.size; clear hu5 hs5))
            | (go_at_call 13; go_must (refine (rstore_any _ c5 2 B r I O _ _ (by exact hB5) (by exact HP5.out.2.2.1) (by omega)).mono ?_; rintro e w6 ⟨rfl, c6, hu6, hs6⟩; have HP6 := Lib.hid (HP5.out.s2 hu6 hs6); have Hb6 := Lib.hid (Hb5.out.trans (hs6.below hB5)); clear hu6 hs6)))
        clear x0 x1 x2
        obtain ⟨ai, ci, ao, co, p0, p1, _, _⟩ := (show UA w6 c6 2 B r I (stO O y z) from HP6.out.2.2.1).reads
        have HFIN := Lib.hid (show PRel w B u o r nn (.int .i64 ((k : Int) + 1)) w6 from ⟨k + 1, c6, I, (stO O y z), _, _, by omega, by go_num, HP6.out.1, HP6.out.2.1, HP6.out.2.2.1, hI, inI_len _ _ hI2, (Nat.le_trans (stO_len _ _ _) (by omega)), Nat.le_trans (stO_len _ _ _) (by omega), yI, byt_inI yI2 _, (byt_stO yO _ _), Hb6.out⟩)
        clear p1
        go_wp2_with fail
        go_quiet ((go_at_call 10; exact quiet_left (waiting_any _ c6 0 B u I (stO O y z) (by exact HP6.out.1) (Nat.le_trans hI (by omega)))))
        go_wp2_with fail
        go_roundw
        case rel =>
          have hnew := prel_drewN HFIN.out nq
          first | exact hnew | ((repeat apply Exists.intro); exact ⟨hnew, rfl⟩)
        case measure => simp [intOf]; omega
      · go_wp2_with fail
        refine (clear_any _ c4 0 B u I O HP4.out.1).mono ?_
        rintro e w5 ⟨rfl, c5, hu5, hs5⟩
        have HP5 := Lib.hid (HP4.out.s0 hu5 hs5)
        have Hb5 := Lib.hid (Hb4.out.trans (hs5.below hB4))
        have hB5 : B ≤ w5.heap.size := Nat.le_trans hB4 hs5.size
        clear hu5 hs5 x0 x1 x2
        obtain ⟨ai', ci', ao', co', p0, _, _, pf⟩ := HP5.out.2.2.1.reads
        obtain ⟨hu6, hs6⟩ := ua_put (v := .slice none 0 0) (ins' := []) HP5.out.2.2.1 (Stp.refl B _ w5 c5) (Own.nil _ _ _ _)
        have HP6 := Lib.hid (HP5.out.s2 hu6 hs6)
        have Hb6 := Lib.hid (Hb5.out.trans (hs6.below hB5))
        clear hu6 hs6
        go_wp2_with fail
        clear p0 pf
        obtain ⟨w6, hw6⟩ : ∃ w6, (w5.setCell ⟨r, 0, none⟩ (.slice none 0 0)) = w6 := ⟨_, rfl⟩
        rw [hw6] at HP6 Hb6
        rw [hw6]
        clear hw6
        obtain ⟨ai, ci, ao, co, p0, p1, _, _⟩ := (show UA w6 c5 2 B r [] O from HP6.out.2.2.1).reads
        have HFIN := Lib.hid (show PRel w B u o r nn (.int .i64 ((k : Int) + 1)) w6 from ⟨k + 1, c5, [], O, _, _, by omega, by go_num, HP6.out.1, HP6.out.2.1, HP6.out.2.2.1, (show ([] : List Int).length ≤ 16 by simp), inI_len _ _ hI2, (Nat.le_trans hO (by omega)), Nat.le_trans (stO_len _ _ _) (by omega), byt_nil, byt_inI yI2 _, yO, Hb6.out⟩)
        clear p1
        go_wp2_with fail
        go_quiet ((go_at_call 10; exact quiet_left (waiting_any _ c5 0 B u [] O (by exact HP6.out.1) (Nat.le_trans (show ([] : List Int).length ≤ 16 by simp) (by omega)))))
        go_wp2_with fail
        go_roundw
        case rel =>
          have hnew := prel_drewN HFIN.out nq
          first | exact hnew | ((repeat apply Exists.intro); exact ⟨hnew, rfl⟩)
        case measure => simp [intOf]; omega
    · obtain rfl : nn = k := by omega
      obtain ⟨ai, ci, ao, co, p0, p1, ps, _⟩ := hr.reads
      have Hu := Lib.hid hu
      have Hr := Lib.hid hr
      have Hb := Lib.hid hb
      have hge : (nn : Int) ≤ nn := by omega
      clear hu ho hr hb yI yI2 hI2 hO2 p0 p1 ps
      go_wp2_with fail
      refine (out_any _ c 0 B u I O 12 hBw Hu.out (by omega)).mono ?_
      rintro e w7 ⟨a7, cap7, c7, rfl, ho7, hs7⟩
      have hB7 : B ≤ w7.heap.size := Nat.le_trans hBw hs7.size
      have Hu7 := Lib.hid (Hu.out.step hs7 (fun _ h => h.elim))
      have Hr7 := Lib.hid (Hr.out.step hs7 (fun _ h => h.elim))
      have Hb7 := Lib.hid (Hb.out.trans (hs7.below hBw))
      have Ho7 := Lib.hid ho7
      clear ho7 hs7 Hu Hr Hb
      obtain ⟨ai, ci, ao, co, p0, p1, ps, _⟩ := Hr7.out.reads
      have v1 : ∀ n, (convert 25 9 (.slice a7 O.length cap7)).run Try.prog (w7.drewN n) = .ok (.string (strOfNums O)) (w7.drewN n) := fun n => src_conv (P := Try.prog) (w := w7.drewN n) (own_src Ho7.out (by8_one _)) cap7 _ _ Try.underlying25 Try.underlying5 _ Try.underlying9
      have v2 : ∀ n, (convert 25 9 (.slice ao O.length co)).run Try.prog (w7.drewN n) = .ok (.string (strOfNums O)) (w7.drewN n) := fun n => src_conv (P := Try.prog) (w := w7.drewN n) ps co _ _ Try.underlying25 Try.underlying5 _ Try.underlying9
      go_wp2_with fail
      go_quiet (fail)
      clear v1 v2 p0 p1 ps
      go_wp2_with fail
      obtain ⟨m, hm⟩ : ∃ m, O.length = m := ⟨_, rfl⟩
      have HMM := Lib.hid hm
      rw [hm]
      have HQ := Lib.hid (show QRel w B u r I O a7 m cap7 (.int .i64 0) (w7.drewN nq) from ⟨0, c7, O, Nat.zero_le _, rfl, Hu7.out, Hr7.out, by rw [← hm]; exact Ho7.out, hm, below_drewN Hb7.out nq⟩)
      clear hm Hu7 Hr7 Hb7 Ho7
      have hm300 : m ≤ 300 := by rw [← HMM.out]; omega
      go_loopw [15] (QRel w B u r I O a7 m cap7) (fun i _ => m - (intOf i).toNat)
      case atStart => exact HQ.out
      case round =>
        clear HQ
        obtain ⟨j, c, ys, hj, rfl, hu, hr, ho, hly, hb⟩ := hrel
        have hBr := Nat.le_trans (Nat.le_of_eq HBB.out.symm) hb.size
        by_cases hlt2 : j < m
        · obtain ⟨b, off, y, hA, hcb, hBb, hbl, hc, hf⟩ := own_at8 ho j hlt2
          subst hA
          have i1 : (0 : Int) ≤ (j : Int) := by omega
          have i2 : (j : Int) < (m : Int) := by omega
          have hnew : ∀ x : Int, QRel w B u r I O (some ⟨b, off, none⟩) m cap7 (.int .i64 ((j : Int) + 1)) (wr.setCell ⟨b, off + j, none⟩ (.int .u8 x)) := fun x => by
            have hs := (Stp.refl B (fun d => d = 12) wr c).set (p := ⟨b, off + j, none⟩) hBb hcb (.int .u8 x)
            exact ⟨j + 1, c, ys.set j x, by omega, by go_num, hu.step hs (fun d hd => by omega), hr.step hs (fun d hd => by omega), own_put8 ho j hlt2 x, by rw [List.length_set]; exact hly, hb.setCell (p := ⟨b, off + j, none⟩) hBb _⟩
          have HNEW := Lib.hid hnew
          clear hnew hu hr ho hb hcb hBb hbl hly
          go_wp2
          go_roundw
          case rel =>
            have hnew := HNEW.out
            first | exact hnew _ | ((repeat apply Exists.intro); exact ⟨hnew _, rfl⟩)
          case measure => simp [intOf]; omega
        · have hge2 : (m : Int) ≤ j := by omega
          obtain ⟨ai, ci, ao, co, p0, p1, ps, _⟩ := hr.reads
          have HS0 : Hid (wr.drew.cell? ⟨r, 1, none⟩ = some (.slice ao O.length co) ∧ (convert 25 9 (.slice ao O.length co)).run Try.prog wr.drew = .ok (.string (strOfNums O)) wr.drew) := Lib.hid ⟨p1, src_conv (P := Try.prog) (w := wr.drew) ps co _ _ Try.underlying25 Try.underlying5 _ Try.underlying9⟩
          have hrl : r < wr.heap.size := hr.2.1
          have Hu := Lib.hid hu
          have HPS := Lib.hid ps
          have HP1 := Lib.hid p1
          have Hb := Lib.hid hb
          have hOl : O.length ≤ 100000 := by omega
          clear hu hr ho hb p0 p1 ps hly
          go_wp2_with fail
          have vA := HS0.out.2
          have pA := HP1.out
          go_region_with (first | (go_at_call 9; go_must (refine (out_any _ c 0 B u I O 12 (by exact hBr) (by exact Hu.out) hOl).mono ?_; rintro e w8 ⟨a8, cap8, c8, rfl, ho8, hs8⟩; have hb8 := stp_bl (stp_ud hs8); have v8 := src_conv (P := Try.prog) (own_src ho8 (by8_one _)) cap8 25 5 Try.underlying25 Try.underlying5 9 Try.underlying9; have pB := cell_b hb8 (Nat.le_refl _) _ _ HP1.out; have vB := src_conv (P := Try.prog) (HPS.out.below hb8) co 25 5 Try.underlying25 Try.underlying5 9 Try.underlying9; have Hb8 := Lib.hid (Hb.out.trans (hb8.mono hBr)); clear ho8 hs8 hb8)))
          all_goals
            clear v8 vA vB pA pB
            go_wp2_with fail
            go_ret
            have hfin := Hb8.out
            rw [← HBB.out] at hfin
            exact ⟨rfl, hfin⟩
theorem out_long (AA : Option Addr) (nn cp : Nat) (w : World) (h300 : 300 < nn) :
    Calls Try.prog 4 #[.slice AA nn cp] w fun e w' => e = .returned (.bool true) ∧ Below w.heap.size w w' := by
  have d300 : (300 : Int) < nn := by omega
  go_enter Try.func4, Try.ntmps4
  go_wp2_with fail
  refine (alive7 _).mono ?_
  rintro e w1 ⟨rfl, hb1⟩
  have H1 := Lib.hid hb1
  clear hb1
  go_wp2_with fail
  go_ret
  exact ⟨rfl, H1.out⟩
theorem walk (AA : Option Addr) (nn cp : Nat) (w : World) (ra : ActsAt w AA nn) :
    Calls Try.prog 4 #[.slice AA nn cp] w fun e w' => e = .returned (.bool true) ∧ Below w.heap.size w w' := by
  by_cases h : nn ≤ 300
  · exact core AA nn cp w ra h
  · exact out_long AA nn cp w (by omega)

set_option maxRecDepth 100000 in
set_option maxHeartbeats 1000000 in
theorem lifted (os : Os) (started : os.Started) (H : Type) (enc : TypeId × Value → H) :
    ReturnsInHanded {} Try.checked os 4 .any (Rows.uartPlaysSpec.pre6 enc Try.prog Try.f4 Rows.uartPlaysRow.domain false) (Rows.uartPlaysSpec.post enc Try.prog Try.f4 false true false false) := by
  refine returnsInHanded_of_change (C := Try.checked) own started (by kernel_rfl) Try.func4
    (ChangeSpec.witness6 (enc := enc) (C := Try.checked) false ⟨#[], #[.slice none 0 0], []⟩ 8 (by kernel_rfl) (by kernel_rfl) (by kernel_rfl) (by kernel_rfl)) ?_
  intro W base args ds gs before hval0 hW hcnd _
  have hval : ∀ (j : Nat) t v, Try.f4.params[j]? = some t → args[j]? = some v → Value.okWide Try.prog W .any base t v := hval0
  have hW' := hW
  obtain ⟨p, q, hA0, hV, rfl, hfz, hnd⟩ := hW
  have hA : DataW.TrodAll enc Try.prog W 0 (fun _ => true) true Try.f4.params.toList args.toList ds p := hA0
  rw [Try.params4] at hA hval
  obtain ⟨v0, vs0, d0, ds0, p0, q0, hargs, rfl, rfl, h0, r0⟩ := trodAll_cons hA
  obtain ⟨rfl, rfl, rfl⟩ := trodAll_nil r0
  obtain rfl : args = #[v0] := by cases args; simp_all
  obtain ⟨rfl, rfl⟩ := trodVars_none hV
  have k0 := h0
  have lt0 : ∀ x ∈ p0, x.block < W.heap.size := by obtain ⟨m, hm⟩ := k0; exact DataW.trod_lt m _ _ _ hm
  obtain ⟨AA, nn, cp, rfl, ra⟩ := open_acts Try.underlying35 Try.underlying40 (by kernel_rfl) (by kernel_rfl) Try.underlying3 (hval 0 35 v0 rfl rfl) h0
  clear hA0 hval0
  refine (walk AA nn cp W ra).mono fun e W' ⟨he, bel⟩ => ?_
  subst he
  exact ⟨_, rfl, _, _, _, [], _, [], hW', trodAll_mk1 (shut_bool Try.underlying4 _), (trodAll_cons_mk (Below.trod laidOut (by kernel_rfl) (of_decide_eq_true (by kernel_rfl)) k0 bel lt0) trodAll_mk0), rfl, bel.frame _, fun h => by cases h⟩

theorem over : Rows.uartPlaysRow.holds Try.pinned (OpenSpec.ofChange Rows.uartPlaysSpec) :=
  OpenClaim.holds_of_wide 4 Try.f4 rfl rfl rfl rfl rfl rfl rfl ⟨rfl, rfl, rfl, rfl, rfl⟩ rfl rfl rfl rfl rfl (by kernel_rfl) Try.func4 (by kernel_rfl)
    (of_decide_eq_true (by kernel_rfl)) (by unfold Func.isWrapper; first | (rw [if_pos (by decide +kernel)]; kernel_rfl) | (rw [if_neg (by decide +kernel)]; exact ⟨rfl, rfl⟩))
    (fun os started H enc _ => lifted os started H enc)

theorem proved : Rows.UartPlaysSaid := over
#print axioms proved
end Go.Proofs.Ytfhgdhkadhhjoaa.uartPlays
