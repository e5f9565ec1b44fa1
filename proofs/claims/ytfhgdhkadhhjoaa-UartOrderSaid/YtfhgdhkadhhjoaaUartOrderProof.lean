/- Proved: the Go law 'trunnionlaw7.UartOrder' returns true for every input and leaves its arguments as they were (the given statement Rows.UartOrderSaid). No conditions. The frame round the walk was written by the kit's proof-skeleton.mjs. -/
import Derived.Test.YtfhgdhkadhhjoaaRows
import Derived.Test.YtfhgdhkadhhjoaaUartLaw
import Derived.WalkKit
import Derived.ProofKit
import Derived.OpenShut
import Derived.ShutString
import Derived.ChangeOld
import Derived.Below
namespace Go.Proofs.Ytfhgdhkadhhjoaa.uartOrder
open Go.ChangeShapes Go.WideShapes Go.ChangeAt Go.RowKit
open Go.ChangeMaps (open_string shut_string)
set_option linter.unusedVariables false

theorem own : ownKnob Try.prog.godebug = none := by kernel_rfl
theorem laidOut : laidOutB Try.prog = true := by kernel_rfl

/-- WHAT THE WALK IS TOLD OF A SLICE OF INTEGERS THAT CAME IN: it is nil; or it leads to a row of 'cap' cells, the numbers 'zs' (the first 'len' are its elements, the rest its spare room), each fitting its kind. -/
def IsRow (k : IntKind) (w : World) (a : Option Addr) (len cap : Nat) (zs : List Int) : Prop :=
  (a = none ∧ len = 0 ∧ cap = 0 ∧ zs = []) ∨
  ∃ x, a = some x ∧ len ≤ cap ∧ cap ≤ maxLen ∧ zs.length = cap ∧ (∀ i, i < zs.length → w.cell? (x.add i) = some (.int k (zs.getD i 0))) ∧ ∀ n ∈ zs, (Lit.int k n).wf = true

theorem own_at {w : World} {c : Nat → Nat} {d B : Nat} {A : Option Addr} {n cap k : Nat} {xs : List Value} {u : Value} (h : Own w c d B (.slice A n cap) xs) (hk : xs[k]? = some u) : ∃ b off, A = some ⟨b, off, none⟩ ∧ w.cell? ⟨b, off + k, none⟩ = some u := by
  rcases h with ⟨_, rfl⟩ | ⟨b, off, cap', hv, _, _, _, _, _, hc, _⟩
  · simp at hk
  · injection hv with e1
    exact ⟨b, off, e1, hc k u hk⟩
set_option maxRecDepth 100000 in
set_option maxHeartbeats 4000000 in
theorem core (N : Nat) (hN : N ≤ 40) (a1 : Option Addr) (len1 cap1 : Nat) (f : Nat → Int) (w : World) (hl1 : len1 ≤ 100) (hrow : ∀ k, k < len1 → ∃ b off, a1 = some ⟨b, off, none⟩ ∧ b < w.heap.size ∧ w.cell? ⟨b, off + k, none⟩ = some (.int .i64 (f k))) :
    Calls Try.prog 3 #[.int .i64 (N : Int), .slice a1 len1 cap1] w fun e w' => e = .returned (.bool true) ∧ Below w.heap.size w w' := by
  have HR := Lib.hid hrow
  clear hrow
  go_enter Try.func3, Try.ntmps3
  go_wp2_with fail
  refine (alive7 _).mono ?_
  rintro e w1 ⟨rfl, hb1⟩
  have HB1 := Lib.hid hb1
  clear hb1
  go_wp2_with fail
  obtain ⟨c0, hu, hs⟩ := ua_new w1 (fun _ => 0) 0 w1.heap.size 27 (Nat.le_refl _)
  obtain ⟨cz, hcz⟩ : ∃ cz : Nat → Nat, cz = fun _ => 0 := ⟨_, rfl⟩
  rw [← hcz] at hs
  clear hcz
  have Hu0 := Lib.hid hu
  have Hs0 := Lib.hid hs
  clear hu hs
  go_loopw [7] (fun i wr => ∃ (k : Nat) (c : Nat → Nat), k ≤ N ∧ i = .int .i64 k ∧ UA wr c 0 w1.heap.size w1.heap.size (insL (min k 16)) [] ∧ Stp w1.heap.size (fun d => d / 3 = 0) w1 cz wr c) (fun i _ => N - (intOf i).toNat)
  case atStart => exact ⟨0, c0, by omega, rfl, Hu0.out, Hs0.out⟩
  case round =>
    clear Hu0 Hs0
    obtain ⟨k, c, hk, rfl, hu, hs⟩ := hrel
    have Hu := Lib.hid hu
    have Hs := Lib.hid hs
    clear hu hs
    by_cases hlt : k < N
    · by_cases h16 : k < 16
      · have hu := Hu.out
        rw [show min k 16 = k by omega] at hu
        clear Hu
        have Hu := Lib.hid hu
        clear hu
        have b16 : decide ((k : Int) < 16) = true := by simp; omega
        go_wp2_with fail
        refine (in_yes _ c 0 w1.heap.size w1.heap.size (insL k) [] k Hs.out.size Hu.out (by rw [insL_len]; exact h16)).mono ?_
        rintro e w2 ⟨rfl, c3, hu3, hs3⟩
        rw [insL_snoc k h16] at hu3
        have Hu3 := Lib.hid hu3
        have Hs3 := Lib.hid hs3
        clear hu3 hs3
        go_wp2_with fail
        go_roundw
        case rel => exact ⟨k + 1, c3, by omega, by go_num, by rw [show min (k + 1) 16 = k + 1 by omega]; exact Hu3.out, Hs.out.trans Hs3.out⟩
        case measure => simp [intOf]; omega
      · have hu := Hu.out
        rw [show min k 16 = 16 by omega] at hu
        clear Hu
        have Hu := Lib.hid hu
        clear hu
        have b16 : decide ((k : Int) < 16) = false := by simp; omega
        go_wp2_with fail
        refine (in_no _ c 0 w1.heap.size w1.heap.size (insL 16) [] k Hu.out (by rw [insL_len]; exact Nat.le_refl _)).mono ?_
        rintro e w2 ⟨rfl, c3, hu3, hs3⟩
        have Hu3 := Lib.hid hu3
        have Hs3 := Lib.hid hs3
        clear hu3 hs3
        go_wp2_with fail
        go_roundw
        case rel => exact ⟨k + 1, c3, by omega, by go_num, by rw [show min (k + 1) 16 = 16 by omega]; exact Hu3.out, Hs.out.trans Hs3.out⟩
        case measure => simp [intOf]; omega
    · have hk' : k = N := by omega
      have hu := Hu.out
      rw [hk'] at hu
      clear hk' Hu
      by_cases h16 : 16 < N
      · rw [show min N 16 = 16 by omega] at hu
        have b17 : decide ((16 : Int) < (N : Int)) = true := by simp; omega
        have UL1 := hu
        have SL1 := Hs.out
        clear hu Hs
        go_wp2_with fail
        go_loopw [8] (fun i wr => ∃ (k : Nat) (c : Nat → Nat), k ≤ 16 ∧ i = .int .i64 k ∧ UA wr c 0 w1.heap.size w1.heap.size ((insL 16).drop k) [] ∧ Stp w1.heap.size (fun d => d / 3 = 0) w1 cz wr c) (fun i _ => 16 - (intOf i).toNat)
        case atStart => exact ⟨0, c, by omega, rfl, by simpa using UL1, SL1⟩
        case round =>
          obtain ⟨k, c2, hk, rfl, hu, hs⟩ := hrel
          have Hu := Lib.hid hu
          have Hs := Lib.hid hs
          clear hu hs
          by_cases hlt : k < 16
          · go_wp2_with fail
            refine (load_8 _ c2 0 w1.heap.size w1.heap.size _ [] Hu.out (by rw [List.length_drop, insL_len]; omega)).mono ?_
            rintro e w2 ⟨rfl, c3, hu3, hs3⟩
            have Hu3 := Lib.hid hu3
            have Hs3 := Lib.hid hs3
            clear hu3 hs3
            rw [show ((insL 16).drop k).length = 16 - k from by rw [List.length_drop, insL_len]]
            have e1 : (((16 - k : Nat) : Int) != 16 - (k : Int)) = false := by simp; omega
            have hu3 := Hu3.out
            rw [insL_drop 16 k hlt] at hu3
            clear Hu3
            have Hu3 := Lib.hid hu3
            clear hu3
            go_wp2_with fail
            refine (load_4c _ c3 0 w1.heap.size w1.heap.size _ [] k (by omega) Hu3.out (by rw [List.length_drop, insL_len]; omega)).mono ?_
            rintro e w3 ⟨rfl, c4, hu4, hs4⟩
            have Hu4 := Lib.hid hu4
            have Hs4 := Lib.hid hs4
            clear hu4 hs4
            go_wp2_with fail
            go_roundw
            case rel => exact ⟨k + 1, c4, by omega, by go_num, Hu4.out, (Hs.out.trans Hs3.out).trans Hs4.out⟩
            case measure => simp [intOf]; omega
          · have hk' : k = 16 := by omega
            have hu := Hu.out
            have hd : (insL 16).drop k = [] := by rw [hk']; exact List.drop_of_length_le (by rw [insL_len]; exact Nat.le_refl _)
            rw [hd] at hu
            clear Hu hd hk'
            have UL2 := Lib.hid hu
            clear hu
            have SL2 := Hs
            clear Hs UL1 SL1
            go_wp2_with fail
            go_loopw [13] (fun i wr => ∃ (k : Nat) (c : Nat → Nat), k ≤ len1 ∧ i = .int .i64 k ∧ UA wr c 0 w1.heap.size w1.heap.size [] (outL f k) ∧ Stp w1.heap.size (fun d => d / 3 = 0) w1 cz wr c) (fun i _ => len1 - (intOf i).toNat)
            case atStart => exact ⟨0, c2, by omega, rfl, UL2.out, SL2.out⟩
            case round =>
              clear UL2 SL2
              obtain ⟨j, d2, hj, rfl, hu, hs⟩ := hrel
              have Hu := Lib.hid hu
              have Hs := Lib.hid hs
              clear hu hs
              by_cases hjl : j < len1
              · obtain ⟨b, off, rfl, hbl, hcell⟩ := HR.out j hjl
                have gc : wr.cell? ⟨b, off + j, none⟩ = some (.int .i64 (f j)) := by
                  rw [(Hs.out.below (Nat.le_refl _)).cell (p := ⟨b, off + j, none⟩) (show b < w1.heap.size by have := HB1.out.size; omega), HB1.out.cell (p := ⟨b, off + j, none⟩) hbl]; exact hcell
                clear hcell
                go_wp2_with fail
                refine (store_0 _ d2 0 w1.heap.size w1.heap.size [] (outL f j) (f j) Hs.out.size Hu.out (by rw [outL_len]; omega)).mono ?_
                rintro e w2 ⟨rfl, c3, hu3, hs3⟩
                rw [outL_snoc] at hu3
                have Hu3 := Lib.hid hu3
                have Hs3 := Lib.hid hs3
                clear hu3 hs3
                go_wp2_with fail
                refine (store_48 _ c3 0 w1.heap.size w1.heap.size [] _ 4 99 Hu3.out (by omega)).mono ?_
                rintro e w3 ⟨rfl, c4, hu4, hs4⟩
                have Hu4 := Lib.hid hu4
                have Hs4 := Lib.hid hs4
                clear hu4 hs4
                go_wp2_with fail
                refine (store_48 _ c4 0 w1.heap.size w1.heap.size [] _ 8 98 Hu4.out (by omega)).mono ?_
                rintro e w4 ⟨rfl, c5, hu5, hs5⟩
                have Hu5 := Lib.hid hu5
                have Hs5 := Lib.hid hs5
                clear hu5 hs5
                go_wp2_with fail
                go_roundw
                case rel => exact ⟨j + 1, c5, by omega, by go_num, Hu5.out, ((Hs.out.trans Hs3.out).trans Hs4.out).trans Hs5.out⟩
                case measure => simp [intOf]; omega
              · have hj' : j = len1 := by omega
                have hu := Hu.out
                rw [hj'] at hu
                clear Hu hj'
                have Hu := Lib.hid hu
                clear hu
                go_wp2_with fail
                refine (out_any _ d2 0 w1.heap.size w1.heap.size [] _ 99 Hs.out.size Hu.out (by rw [outL_len]; omega)).mono ?_
                rintro e w2 ⟨ao, capo, c3, rfl, ho, hs3⟩
                rw [outL_len] at ho ⊢
                have Ho := Lib.hid ho
                have Hs3 := Lib.hid (hs3.mono (T := fun d => d / 3 = 0) (fun _ h => h.elim))
                have Hu3 := Lib.hid (Hu.out.step hs3 (fun _ h => h.elim))
                clear ho hs3 Hu
                go_wp2_with fail
                go_loopw [15] (fun i wr => ∃ (k m : Nat), k ≤ len1 ∧ i = .int .i64 k ∧ wr = w2.drewN m) (fun i _ => len1 - (intOf i).toNat)
                case atStart => exact ⟨0, 0, by omega, rfl, rfl⟩
                case round =>
                  obtain ⟨l, m, hl, rfl, rfl⟩ := hrel
                  by_cases hll : l < len1
                  · obtain ⟨b, off, rfl, hbl, hcell⟩ := HR.out l hll
                    have gc : w2.cell? ⟨b, off + l, none⟩ = some (.int .i64 (f l)) := by
                      rw [((Hs.out.trans Hs3.out).below (Nat.le_refl _)).cell (p := ⟨b, off + l, none⟩) (show b < w1.heap.size by have := HB1.out.size; omega), HB1.out.cell (p := ⟨b, off + l, none⟩) hbl]; exact hcell
                    clear hcell hbl
                    obtain ⟨bo, offo, rfl, gco⟩ := own_at Ho.out (outL_get f len1 l hll)
                    have hb255 := and_255 (f l)
                    have hf0 : 0 ≤ f l % 256 := by omega
                    have hf1 : f l % 256 ≤ 255 := by omega
                    go_wp2_with fail
                    go_quiet (fail)
                    go_wp2_with fail
                    go_roundw
                    case rel => exact ⟨l + 1, _, by omega, by go_num, rfl⟩
                    case measure => simp [intOf]; omega
                  · go_wp2_with fail
                    refine (waiting_any _ c3 0 w1.heap.size w1.heap.size [] _ (Hu3.out.step ((Stp.refl w1.heap.size (fun _ => False) w2 c3).drewN m) (fun _ h => h.elim)) (by simp)).mono ?_
                    rintro e w3 ⟨rfl, rfl⟩
                    go_wp2_with fail
                    go_ret
                    exact ⟨rfl, btrans HB1.out (((Hs.out.trans Hs3.out).drewN m).below (Nat.le_refl _))⟩
      · rw [show min N 16 = N by omega] at hu
        have b17 : decide ((16 : Int) < (N : Int)) = false := by simp; omega
        have UL1 := hu
        have SL1 := Hs.out
        clear hu Hs
        go_wp2_with fail
        go_loopw [8] (fun i wr => ∃ (k : Nat) (c : Nat → Nat), k ≤ N ∧ i = .int .i64 k ∧ UA wr c 0 w1.heap.size w1.heap.size ((insL N).drop k) [] ∧ Stp w1.heap.size (fun d => d / 3 = 0) w1 cz wr c) (fun i _ => N - (intOf i).toNat)
        case atStart => exact ⟨0, c, by omega, rfl, by simpa using UL1, SL1⟩
        case round =>
          obtain ⟨k, c2, hk, rfl, hu, hs⟩ := hrel
          have Hu := Lib.hid hu
          have Hs := Lib.hid hs
          clear hu hs
          by_cases hlt : k < N
          · go_wp2_with fail
            refine (load_8 _ c2 0 w1.heap.size w1.heap.size _ [] Hu.out (by rw [List.length_drop, insL_len]; omega)).mono ?_
            rintro e w2 ⟨rfl, c3, hu3, hs3⟩
            have Hu3 := Lib.hid hu3
            have Hs3 := Lib.hid hs3
            clear hu3 hs3
            rw [show ((insL N).drop k).length = N - k from by rw [List.length_drop, insL_len]]
            have e1 : (((N - k : Nat) : Int) != (N : Int) - (k : Int)) = false := by simp; omega
            have hu3 := Hu3.out
            rw [insL_drop N k hlt] at hu3
            clear Hu3
            have Hu3 := Lib.hid hu3
            clear hu3
            go_wp2_with fail
            refine (load_4c _ c3 0 w1.heap.size w1.heap.size _ [] k (by omega) Hu3.out (by rw [List.length_drop, insL_len]; omega)).mono ?_
            rintro e w3 ⟨rfl, c4, hu4, hs4⟩
            have Hu4 := Lib.hid hu4
            have Hs4 := Lib.hid hs4
            clear hu4 hs4
            go_wp2_with fail
            go_roundw
            case rel => exact ⟨k + 1, c4, by omega, by go_num, Hu4.out, (Hs.out.trans Hs3.out).trans Hs4.out⟩
            case measure => simp [intOf]; omega
          · have hk' : k = N := by omega
            have hu := Hu.out
            have hd : (insL N).drop k = [] := by rw [hk']; exact List.drop_of_length_le (by rw [insL_len]; exact Nat.le_refl _)
            rw [hd] at hu
            clear Hu hd hk'
            have UL2 := Lib.hid hu
            clear hu
            have SL2 := Hs
            clear Hs UL1 SL1
            go_wp2_with fail
            go_loopw [13] (fun i wr => ∃ (k : Nat) (c : Nat → Nat), k ≤ len1 ∧ i = .int .i64 k ∧ UA wr c 0 w1.heap.size w1.heap.size [] (outL f k) ∧ Stp w1.heap.size (fun d => d / 3 = 0) w1 cz wr c) (fun i _ => len1 - (intOf i).toNat)
            case atStart => exact ⟨0, c2, by omega, rfl, UL2.out, SL2.out⟩
            case round =>
              clear UL2 SL2
              obtain ⟨j, d2, hj, rfl, hu, hs⟩ := hrel
              have Hu := Lib.hid hu
              have Hs := Lib.hid hs
              clear hu hs
              by_cases hjl : j < len1
              · obtain ⟨b, off, rfl, hbl, hcell⟩ := HR.out j hjl
                have gc : wr.cell? ⟨b, off + j, none⟩ = some (.int .i64 (f j)) := by
                  rw [(Hs.out.below (Nat.le_refl _)).cell (p := ⟨b, off + j, none⟩) (show b < w1.heap.size by have := HB1.out.size; omega), HB1.out.cell (p := ⟨b, off + j, none⟩) hbl]; exact hcell
                clear hcell
                go_wp2_with fail
                refine (store_0 _ d2 0 w1.heap.size w1.heap.size [] (outL f j) (f j) Hs.out.size Hu.out (by rw [outL_len]; omega)).mono ?_
                rintro e w2 ⟨rfl, c3, hu3, hs3⟩
                rw [outL_snoc] at hu3
                have Hu3 := Lib.hid hu3
                have Hs3 := Lib.hid hs3
                clear hu3 hs3
                go_wp2_with fail
                refine (store_48 _ c3 0 w1.heap.size w1.heap.size [] _ 4 99 Hu3.out (by omega)).mono ?_
                rintro e w3 ⟨rfl, c4, hu4, hs4⟩
                have Hu4 := Lib.hid hu4
                have Hs4 := Lib.hid hs4
                clear hu4 hs4
                go_wp2_with fail
                refine (store_48 _ c4 0 w1.heap.size w1.heap.size [] _ 8 98 Hu4.out (by omega)).mono ?_
                rintro e w4 ⟨rfl, c5, hu5, hs5⟩
                have Hu5 := Lib.hid hu5
                have Hs5 := Lib.hid hs5
                clear hu5 hs5
                go_wp2_with fail
                go_roundw
                case rel => exact ⟨j + 1, c5, by omega, by go_num, Hu5.out, ((Hs.out.trans Hs3.out).trans Hs4.out).trans Hs5.out⟩
                case measure => simp [intOf]; omega
              · have hj' : j = len1 := by omega
                have hu := Hu.out
                rw [hj'] at hu
                clear Hu hj'
                have Hu := Lib.hid hu
                clear hu
                go_wp2_with fail
                refine (out_any _ d2 0 w1.heap.size w1.heap.size [] _ 99 Hs.out.size Hu.out (by rw [outL_len]; omega)).mono ?_
                rintro e w2 ⟨ao, capo, c3, rfl, ho, hs3⟩
                rw [outL_len] at ho ⊢
                have Ho := Lib.hid ho
                have Hs3 := Lib.hid (hs3.mono (T := fun d => d / 3 = 0) (fun _ h => h.elim))
                have Hu3 := Lib.hid (Hu.out.step hs3 (fun _ h => h.elim))
                clear ho hs3 Hu
                go_wp2_with fail
                go_loopw [15] (fun i wr => ∃ (k m : Nat), k ≤ len1 ∧ i = .int .i64 k ∧ wr = w2.drewN m) (fun i _ => len1 - (intOf i).toNat)
                case atStart => exact ⟨0, 0, by omega, rfl, rfl⟩
                case round =>
                  obtain ⟨l, m, hl, rfl, rfl⟩ := hrel
                  by_cases hll : l < len1
                  · obtain ⟨b, off, rfl, hbl, hcell⟩ := HR.out l hll
                    have gc : w2.cell? ⟨b, off + l, none⟩ = some (.int .i64 (f l)) := by
                      rw [((Hs.out.trans Hs3.out).below (Nat.le_refl _)).cell (p := ⟨b, off + l, none⟩) (show b < w1.heap.size by have := HB1.out.size; omega), HB1.out.cell (p := ⟨b, off + l, none⟩) hbl]; exact hcell
                    clear hcell hbl
                    obtain ⟨bo, offo, rfl, gco⟩ := own_at Ho.out (outL_get f len1 l hll)
                    have hb255 := and_255 (f l)
                    have hf0 : 0 ≤ f l % 256 := by omega
                    have hf1 : f l % 256 ≤ 255 := by omega
                    go_wp2_with fail
                    go_quiet (fail)
                    go_wp2_with fail
                    go_roundw
                    case rel => exact ⟨l + 1, _, by omega, by go_num, rfl⟩
                    case measure => simp [intOf]; omega
                  · go_wp2_with fail
                    refine (waiting_any _ c3 0 w1.heap.size w1.heap.size [] _ (Hu3.out.step ((Stp.refl w1.heap.size (fun _ => False) w2 c3).drewN m) (fun _ h => h.elim)) (by simp)).mono ?_
                    rintro e w3 ⟨rfl, rfl⟩
                    go_wp2_with fail
                    go_ret
                    exact ⟨rfl, btrans HB1.out (((Hs.out.trans Hs3.out).drewN m).below (Nat.le_refl _))⟩
theorem core_no (a0 : Int) (a1 : Option Addr) (len1 cap1 : Nat) (w : World) (h : a0 < 0 ∨ 40 < a0 ∨ 100 < len1) (hlm : len1 ≤ maxLen) :
    Calls Try.prog 3 #[.int .i64 a0, .slice a1 len1 cap1] w fun e w' => e = .returned (.bool true) ∧ Below w.heap.size w w' := by
  unfold maxLen at hlm
  by_cases g1 : a0 < 0
  · go_enter Try.func3, Try.ntmps3
    go_wp2_with fail
    refine (alive7 _).mono ?_
    rintro e w1 ⟨rfl, hb1⟩
    have HB1 := Lib.hid hb1
    clear hb1
    go_wp2_with fail
    go_ret
    exact ⟨rfl, HB1.out⟩
  · by_cases g2 : 40 < a0
    · go_enter Try.func3, Try.ntmps3
      go_wp2_with fail
      refine (alive7 _).mono ?_
      rintro e w1 ⟨rfl, hb1⟩
      have HB1 := Lib.hid hb1
      clear hb1
      go_wp2_with fail
      go_ret
      exact ⟨rfl, HB1.out⟩
    · have g3 : 100 < len1 := by omega
      have d1 : decide (a0 < 0) = false := by simp; omega
      have d2 : decide (40 < a0) = false := by simp; omega
      clear h
      go_enter Try.func3, Try.ntmps3
      go_wp2_with fail
      refine (alive7 _).mono ?_
      rintro e w1 ⟨rfl, hb1⟩
      have HB1 := Lib.hid hb1
      clear hb1
      go_wp2_with fail
      go_ret
      exact ⟨rfl, HB1.out⟩
theorem walk (a0 : Int) (a1 : Option Addr) (len1 cap1 : Nat) (z1 : List Int) (w : World) (w0 : (Lit.int .i64 a0).wf = true) (w1 : IsRow .i64 w a1 len1 cap1 z1) :
    Calls Try.prog 3 #[.int .i64 a0, .slice a1 len1 cap1] w fun e w' => e = .returned (.bool true) ∧ Below w.heap.size w w' := by
  have hlm : len1 ≤ maxLen := by
    rcases w1 with ⟨_, h, _⟩ | ⟨_, _, h1, h2, _⟩
    · omega
    · omega
  by_cases h : a0 < 0 ∨ 40 < a0 ∨ 100 < len1
  · exact core_no a0 a1 len1 cap1 w h hlm
  · obtain ⟨N, rfl⟩ := Int.eq_ofNat_of_zero_le (show 0 ≤ a0 by omega)
    refine core N (by omega) a1 len1 cap1 (fun k => z1.getD k 0) w (by omega) ?_
    intro k hk
    rcases w1 with ⟨_, h0, _⟩ | ⟨x, hx, hlc, _, hz, hcell, _⟩
    · omega
    · have hck := hcell k (by omega)
      obtain ⟨b, off, rfl, hc'⟩ := ints_at hcell (show 0 < z1.length by omega)
      have hlt := World.block_lt_of_cell? _ _ (hc' k (by omega))
      exact ⟨b, off, hx, hlt, hc' k (by omega)⟩

set_option maxRecDepth 100000 in
theorem lifted (os : Os) (started : os.Started) (H : Type) (enc : TypeId × Value → H) :
    ReturnsInHanded {} Try.checked os 3 .any (Rows.uartOrderSpec.pre6 enc Try.prog Try.f3 Rows.uartOrderRow.domain false) (Rows.uartOrderSpec.post enc Try.prog Try.f3 false true false false) := by
  refine returnsInHanded_of_change (C := Try.checked) own started (by kernel_rfl) Try.func3
    (ChangeSpec.witness6 (enc := enc) (C := Try.checked) false ⟨#[], #[.int .i64 0, .slice none 0 0], []⟩ 8 (by kernel_rfl) (by kernel_rfl) (by kernel_rfl) (by kernel_rfl)) ?_
  intro W base args ds gs before hval0 hW hcnd _
  have hval : ∀ (j : Nat) t v, Try.f3.params[j]? = some t → args[j]? = some v → Value.okWide Try.prog W .any base t v := hval0
  have hW' := hW
  obtain ⟨p, q, hA0, hV, rfl, hfz, hnd⟩ := hW
  have hA : DataW.TrodAll enc Try.prog W 0 (fun _ => true) true Try.f3.params.toList args.toList ds p := hA0
  rw [Try.params3] at hA hval
  obtain ⟨v0, vs0, d0, ds0, p0, q0, hargs, rfl, rfl, h0, r0⟩ := trodAll_cons hA
  obtain ⟨v1, vs1, d1, ds1, p1, q1, rfl, rfl, rfl, h1, r1⟩ := trodAll_cons r0
  obtain ⟨rfl, rfl, rfl⟩ := trodAll_nil r1
  obtain rfl : args = #[v0, v1] := by cases args; simp_all
  obtain ⟨rfl, rfl⟩ := trodVars_none hV
  obtain ⟨a0, rfl, rfl, rfl, w0⟩ := open_int Try.underlying3 (hval 0 3 v0 rfl rfl) h0
  obtain ⟨a1, len1, cap1, rfl⟩ := okWide_slice Try.underlying22 (hval 1 22 v1 rfl rfl)
  have k1 := h1
  have lt1 : ∀ x ∈ p1, x.block < W.heap.size := by obtain ⟨m, hm⟩ := k1; exact DataW.trod_lt m _ _ _ hm
  obtain ⟨z1, w1⟩ : ∃ zs, IsRow .i64 W a1 len1 cap1 zs := by
    obtain ⟨fuel, hf⟩ := h1
    rcases open_ints Try.underlying22 Try.underlying3 (by kernel_rfl) hf with ⟨hcs, _⟩ | ⟨x, l, c, zs, hcs, _, hl, hm, hz, _, hcell, hwz⟩
    · simp [Value.cells] at hcs
      obtain ⟨rfl, rfl, rfl⟩ := hcs
      exact ⟨[], .inl ⟨rfl, rfl, rfl, rfl⟩⟩
    · simp [Value.cells] at hcs
      obtain ⟨rfl, rfl, rfl⟩ := hcs
      exact ⟨zs, .inr ⟨_, rfl, hl, hm, by simpa using hz, hcell, hwz⟩⟩
  clear hA0 hval0
  refine (walk a0 a1 len1 cap1 z1 W w0 w1).mono fun e W' ⟨he, bel⟩ => ?_
  subst he
  exact ⟨_, rfl, _, _, _, [], _, [], hW', trodAll_mk1 (shut_bool Try.underlying4 _), (trodAll_cons_mk (shut_int Try.underlying3 w0) (trodAll_cons_mk (Below.trod laidOut (by kernel_rfl) (of_decide_eq_true (by kernel_rfl)) k1 bel lt1) trodAll_mk0)), rfl, bel.frame _, fun h => by cases h⟩

theorem over : Rows.uartOrderRow.holds Try.pinned (OpenSpec.ofChange Rows.uartOrderSpec) :=
  OpenClaim.holds_of_wide 3 Try.f3 rfl rfl rfl rfl rfl rfl rfl ⟨rfl, rfl, rfl, rfl, rfl⟩ rfl rfl rfl rfl rfl (by kernel_rfl) Try.func3 (by kernel_rfl)
    (of_decide_eq_true (by kernel_rfl)) (by unfold Func.isWrapper; first | (rw [if_pos (by decide +kernel)]; kernel_rfl) | (rw [if_neg (by decide +kernel)]; exact ⟨rfl, rfl⟩))
    (fun os started H enc _ => lifted os started H enc)

theorem proved : Rows.UartOrderSaid := over
#print axioms proved
end Go.Proofs.Ytfhgdhkadhhjoaa.uartOrder
