/- Each method of the two serial lines, whatever it is called with: one contract each, by the same plain functions. Conditions: at most 16 bytes wait, all are bytes. -/
import Derived.Test.YtfhgdhkadhhjoaaUartLaw
import Derived.Laws.BytesArg
import Derived.Deep.RegionHeld3
import Derived.Deep.RegionWith
import Derived.BigRegion
import Derived.Deep.DrawnRows
import Derived.Outline
namespace Go.Proofs.Ytfhgdhkadhhjoaa
open Go.RowKit

def inB (ins : List Int) : Bool := decide (ins.length < 16)
def inI (ins : List Int) (b : Int) : List Int := if ins.length < 16 then ins ++ [b % 256] else ins
def ldV (ins : List Int) (off : Int) : Int := if off = 0 then 0 else if off = 4 then ins.headD 4294967295 else if off = 8 then ins.length else 0
def okB (off : Int) : Bool := decide (off = 0 ∨ off = 4 ∨ off = 8)
def ldI (ins : List Int) (off : Int) : List Int := if off = 4 then ins.tail else ins
def stO (outs : List Int) (off b : Int) : List Int := if off = 0 then outs ++ [b % 256] else outs
/-- All are bytes. -/
def Byt (l : List Int) : Prop := ∀ x ∈ l, 0 ≤ x ∧ x ≤ 255
theorem byt_nil : Byt [] := fun x h => by simp at h
theorem byt_snoc {l : List Int} (h : Byt l) (b : Int) : Byt (l ++ [b % 256]) := by
  intro x hx
  rcases List.mem_append.1 hx with hx | hx
  · exact h x hx
  · simp at hx; omega
theorem byt_inI {l : List Int} (h : Byt l) (b : Int) : Byt (inI l b) := by
  unfold inI; split
  · exact byt_snoc h b
  · exact h
theorem byt_ldI {l : List Int} (h : Byt l) (off : Int) : Byt (ldI l off) := by
  unfold ldI; split
  · exact fun x hx => h x (List.mem_of_mem_tail hx)
  · exact h
theorem byt_stO {l : List Int} (h : Byt l) (off b : Int) : Byt (stO l off b) := by
  unfold stO; split
  · exact byt_snoc h b
  · exact h
theorem inI_len (l : List Int) (b : Int) (h : l.length ≤ 16) : (inI l b).length ≤ 16 := by
  unfold inI; split
  · rw [List.length_append]; simp; omega
  · exact h
theorem ldI_len (l : List Int) (off : Int) (h : l.length ≤ 16) : (ldI l off).length ≤ 16 := by
  unfold ldI; split
  · rw [List.length_tail]; omega
  · exact h
theorem stO_len (l : List Int) (off b : Int) : (stO l off b).length ≤ l.length + 1 := by
  unfold stO; split
  · rw [List.length_append]; simp
  · omega
/-- What a method leaves. -/
def UP (w : World) (c : Nat → Nat) (i B u : Nat) (v : Value) (ins outs : List Int) (e : Ending) (w' : World) : Prop :=
  e = .returned v ∧ ∃ c', UA w' c' i B u ins outs ∧ Stp B (fun d => d / 3 = i) w c w' c'
section
variable (w : World) (c : Nat → Nat) (i B u : Nat) (ins outs : List Int)
theorem in_any (b : Int) (hB : B ≤ w.heap.size) (h : UA w c i B u ins outs) :
    Calls Try.prog 6 #[.pointer (some ⟨u, 0, none⟩), .int .i64 b] w (UP w c i B u (.bool (inB ins)) (inI ins b) outs) := by
  by_cases hl : ins.length < 16
  · have e1 : inB ins = true := decide_eq_true hl
    have e2 : inI ins b = ins ++ [b % 256] := if_pos hl
    rw [e1, e2]; exact in_yes w c i B u ins outs b hB h hl
  · have e1 : inB ins = false := decide_eq_false hl
    have e2 : inI ins b = ins := if_neg hl
    rw [e1, e2]; exact in_no w c i B u ins outs b h (by omega)
theorem rin_any (b : Int) (hB : B ≤ w.heap.size) (h : UA w c i B u ins outs) :
    Calls Try.prog 11 #[.pointer (some ⟨u, 0, none⟩), .int .i64 b] w (UP w c i B u (.bool (inB ins)) (inI ins b) outs) := by
  by_cases hl : ins.length < 16
  · have e1 : inB ins = true := decide_eq_true hl
    have e2 : inI ins b = ins ++ [b % 256] := if_pos hl
    rw [e1, e2]; exact rin_yes w c i B u ins outs b hB h hl
  · have e1 : inB ins = false := decide_eq_false hl
    have e2 : inI ins b = ins := if_neg hl
    rw [e1, e2]; exact rin_no w c i B u ins outs b h (by omega)
theorem store_any (off b : Int) (hB : B ≤ w.heap.size) (h : UA w c i B u ins outs) (hl : outs.length < 100000) :
    Calls Try.prog 8 #[.pointer (some ⟨u, 0, none⟩), .int .i64 off, .int .i64 b] w (UP w c i B u (.bool (okB off)) ins (stO outs off b)) := by
  by_cases h0 : off = 0
  · subst h0
    exact store_0 w c i B u ins outs b hB h hl
  · have e2 : stO outs off b = outs := if_neg h0
    rw [e2]
    by_cases h4 : off = 4 ∨ off = 8
    · have e1 : okB off = true := decide_eq_true (by omega)
      rw [e1]; exact store_48 w c i B u ins outs off b h h4
    · have e1 : okB off = false := decide_eq_false (by omega)
      rw [e1]; exact store_no w c i B u ins outs off b h h0 (by omega) (by omega)
theorem rstore_any (off b : Int) (hB : B ≤ w.heap.size) (h : UA w c i B u ins outs) (hl : outs.length < 100000) :
    Calls Try.prog 13 #[.pointer (some ⟨u, 0, none⟩), .int .i64 off, .int .i64 b] w (UP w c i B u (.bool (okB off)) ins (stO outs off b)) := by
  by_cases h0 : off = 0
  · subst h0
    exact rstore_0 w c i B u ins outs b hB h hl
  · have e2 : stO outs off b = outs := if_neg h0
    rw [e2]
    by_cases h4 : off = 4 ∨ off = 8
    · have e1 : okB off = true := decide_eq_true (by omega)
      rw [e1]; exact rstore_48 w c i B u ins outs off b h h4
    · have e1 : okB off = false := decide_eq_false (by omega)
      rw [e1]; exact rstore_no w c i B u ins outs off b h h0 (by omega) (by omega)
theorem load_any (off : Int) (hy : Byt ins) (hl : ins.length ≤ 16) (h : UA w c i B u ins outs) :
    Calls Try.prog 7 #[.pointer (some ⟨u, 0, none⟩), .int .i64 off] w (UP w c i B u (.tuple #[.int .i64 (ldV ins off), .bool (okB off)]) (ldI ins off) outs) := by
  by_cases h0 : off = 0
  · subst h0; exact load_0 w c i B u ins outs h
  by_cases h4 : off = 4
  · subst h4
    rcases ins with _ | ⟨x, ins⟩
    · exact load_4n w c i B u [] outs h rfl
    · exact load_4c w c i B u ins outs x (hy x (by simp)) h (by simp at hl; omega)
  have e2 : ldI ins off = ins := if_neg h4
  rw [e2]
  by_cases h8 : off = 8
  · subst h8; exact load_8 w c i B u ins outs h (by omega)
  · have e1 : okB off = false := decide_eq_false (by omega)
    have e3 : ldV ins off = 0 := by unfold ldV; rw [if_neg h0, if_neg h4, if_neg h8]
    rw [e1, e3]; exact load_no w c i B u ins outs off h h0 h4 h8
theorem rload_any (off : Int) (hy : Byt ins) (hl : ins.length ≤ 16) (h : UA w c i B u ins outs) :
    Calls Try.prog 12 #[.pointer (some ⟨u, 0, none⟩), .int .i64 off] w (UP w c i B u (.tuple #[.int .i64 (ldV ins off), .bool (okB off)]) (ldI ins off) outs) := by
  by_cases h0 : off = 0
  · subst h0; exact rload_0 w c i B u ins outs h
  by_cases h4 : off = 4
  · subst h4
    rcases ins with _ | ⟨x, ins⟩
    · exact rload_4n w c i B u [] outs h rfl
    · exact rload_4c w c i B u ins outs x (hy x (by simp)) h (by simp at hl; omega)
  have e2 : ldI ins off = ins := if_neg h4
  rw [e2]
  by_cases h8 : off = 8
  · subst h8; exact rload_8 w c i B u ins outs h (by omega)
  · have e1 : okB off = false := decide_eq_false (by omega)
    have e3 : ldV ins off = 0 := by unfold ldV; rw [if_neg h0, if_neg h4, if_neg h8]
    rw [e1, e3]; exact rload_no w c i B u ins outs off h h0 h4 h8
end
/-- Two serial lines, the reference's, and the call that is played (a block of three numbers, of a colour of its own). -/
def Pl (w : World) (c : Nat → Nat) (B u o r : Nat) (I O I2 O2 J P : List Int) (ab : Nat) (x y z : Int) : Prop :=
  UA w c 0 B u I O ∧ UA w c 1 B o I2 O2 ∧ UA w c 2 B r J P ∧ c ab = 9 ∧ ab < w.heap.size ∧ w.cell? ⟨ab, 0, none⟩ = some (.int .i64 x) ∧ w.cell? ⟨ab, 1, none⟩ = some (.int .i64 y) ∧ w.cell? ⟨ab, 2, none⟩ = some (.int .i64 z)
section
variable {w w' : World} {c c' : Nat → Nat} {B u o r : Nat} {I O I2 O2 J P I' O' : List Int} {ab : Nat} {x y z : Int}
theorem pl_ab {i : Nat} (hi : i < 3) (h : c ab = 9) (hl : ab < w.heap.size) (hs : Stp B (fun d => d / 3 = i) w c w' c') {k : Nat} {v : Value} (hv : w.cell? ⟨ab, k, none⟩ = some v) : w'.cell? ⟨ab, k, none⟩ = some v := by
  rw [hs.cell (p := ⟨ab, k, none⟩) hl (by rw [h]; omega)]; exact hv
theorem Pl.s0 (h : Pl w c B u o r I O I2 O2 J P ab x y z) (hu : UA w' c' 0 B u I' O') (hs : Stp B (fun d => d / 3 = 0) w c w' c') : Pl w' c' B u o r I' O' I2 O2 J P ab x y z := by
  obtain ⟨_, h1, h2, h3, h4, h5, h6, h7⟩ := h
  exact ⟨hu, h1.step hs (fun d hd => by omega), h2.step hs (fun d hd => by omega), (hs.col ab h4).trans h3, Nat.lt_of_lt_of_le h4 hs.size, pl_ab (by omega) h3 h4 hs h5, pl_ab (by omega) h3 h4 hs h6, pl_ab (by omega) h3 h4 hs h7⟩
theorem Pl.s1 (h : Pl w c B u o r I O I2 O2 J P ab x y z) (hu : UA w' c' 1 B o I' O') (hs : Stp B (fun d => d / 3 = 1) w c w' c') : Pl w' c' B u o r I O I' O' J P ab x y z := by
  obtain ⟨h0, _, h2, h3, h4, h5, h6, h7⟩ := h
  exact ⟨h0.step hs (fun d hd => by omega), hu, h2.step hs (fun d hd => by omega), (hs.col ab h4).trans h3, Nat.lt_of_lt_of_le h4 hs.size, pl_ab (by omega) h3 h4 hs h5, pl_ab (by omega) h3 h4 hs h6, pl_ab (by omega) h3 h4 hs h7⟩
theorem Pl.s2 (h : Pl w c B u o r I O I2 O2 J P ab x y z) (hu : UA w' c' 2 B r I' O') (hs : Stp B (fun d => d / 3 = 2) w c w' c') : Pl w' c' B u o r I O I2 O2 I' O' ab x y z := by
  obtain ⟨h0, h1, _, h3, h4, h5, h6, h7⟩ := h
  exact ⟨h0.step hs (fun d hd => by omega), h1.step hs (fun d hd => by omega), hu, (hs.col ab h4).trans h3, Nat.lt_of_lt_of_le h4 hs.size, pl_ab (by omega) h3 h4 hs h5, pl_ab (by omega) h3 h4 hs h6, pl_ab (by omega) h3 h4 hs h7⟩
/-- The call is laid into a block of its own. -/
theorem pl_new (w : World) (h0 : UA w c 0 B u I O) (h1 : UA w c 1 B o I2 O2) (h2 : UA w c 2 B r J P) (t : TypeId) :
    ∃ c', Pl (w.alloc (.cells #[.int .i64 x, .int .i64 y, .int .i64 z] t)) c' B u o r I O I2 O2 J P w.heap.size x y z ∧ Stp B (fun _ => False) w c (w.alloc (.cells #[.int .i64 x, .int .i64 y, .int .i64 z] t)) c' := by
  have hs : Stp B (fun _ => False) w c (w.alloc (.cells #[.int .i64 x, .int .i64 y, .int .i64 z] t)) (fun k => if k < w.heap.size then c k else 9) := ⟨rfl, rfl, rfl, by simp, fun k hk => if_pos hk, fun k hk _ => Below.heap_alloc w _ k hk⟩
  exact ⟨_, ⟨h0.step hs (fun _ h => h.elim), h1.step hs (fun _ h => h.elim), h2.step hs (fun _ h => h.elim), if_neg (Nat.lt_irrefl _), by simp, by simp, by simp, by simp⟩, hs⟩
end
theorem src_conv {P : Program} {w : World} {A : Option Addr} {l : List Int} (h : Src w A l.length (by8 l)) (cap : Nat) (src e : TypeId) (hs : P.underlying src = some (.slice e)) (he : P.underlying e = some (.int .u8)) (dst : TypeId) (hd : P.underlying dst = some .string) :
    (convert src dst (.slice A l.length cap)).run P w = .ok (.string (strOfNums l)) w := by
  rcases A with _ | ⟨b, off, s⟩
  · have h0 : l.length = 0 := by
      rcases Nat.eq_zero_or_pos l.length with h' | h'
      · exact h'
      · exact absurd rfl (h.2.2.1 h')
    obtain rfl := List.eq_nil_of_length_eq_zero h0
    exact run_convert_bytes_nil w src e hs he _ cap dst hd
  · rcases l with _ | ⟨x, l⟩
    · rw [run_convert_bytes_string w src dst e _ _ cap hs he hd]
      simp [Conv.bytesToString, loadCells]
      rfl
    · have hspot : s = none := by simpa [Addr.add] using World.cell?_spot (h.2.2.2 _ rfl 0 (.int .u8 x) rfl)
      subst hspot
      have hc := h.2.2.2 _ rfl
      refine run_convert_bytes_arg w src e hs he b off _ cap (x :: l) rfl (fun i hi => ?_) dst hd
      have := hc i (.int .u8 ((x :: l).getD i 0)) (by unfold by8; rw [List.getElem?_map, List.getElem?_eq_getElem hi]; simp [List.getD, List.getElem?_eq_getElem hi])
      rw [Addr.add_lit] at this; exact this

theorem quiet_left {P : Program} {f : FuncId} {args : Array Value} {w : World} {n : Nat} {v : Value}
    (h : Calls P f args (w.drewN n) fun e w' => e = .returned v ∧ w.drewN n = w') : Calls P f args (w.drewN n) fun e w'' => e = .returned v ∧ ∃ m, w'' = w.drewN m :=
  h.mono fun _ _ ⟨he, hm⟩ => ⟨he, n, hm.symm⟩
theorem below_drewN {B : Nat} {w w' : World} (h : Below B w w') (n : Nat) : Below B w (w'.drewN n) := ⟨h.os, h.tape, h.output, h.size, h.block⟩
/-- What the reference's line holds, as the walk reads it. -/
theorem UA.reads {w : World} {c : Nat → Nat} {i B u : Nat} {ins outs : List Int} (h : UA w c i B u ins outs) :
    ∃ ai ci ao co, w.cell? ⟨u, 0, none⟩ = some (.slice ai ins.length ci) ∧ w.cell? ⟨u, 1, none⟩ = some (.slice ao outs.length co) ∧ Src w ao outs.length (by8 outs) ∧ w.frozen? ⟨u, 0, none⟩ = false := by
  obtain ⟨_, _, _, hf, _, vi, vo, h6, h7, h8, h9⟩ := h
  obtain ⟨a, cap, rfl, _⟩ := h8.form
  obtain ⟨a', cap', rfl, _⟩ := h9.form
  rw [by8_len] at h6 h7 h9
  exact ⟨a, cap, a', cap', h6, h7, own_src h9 (by8_one _), hf⟩
theorem own_put8 {w : World} {c : Nat → Nat} {d B b off m cap : Nat} {ys : List Int} (h : Own w c d B (.slice (some ⟨b, off, none⟩) m cap) (by8 ys)) (k : Nat) (hk : k < m) (x : Int) :
    Own (w.setCell ⟨b, off + k, none⟩ (.int .u8 x)) c d B (.slice (some ⟨b, off, none⟩) m cap) (by8 (ys.set k x)) := by
  rcases h with ⟨h, _⟩ | ⟨b', off', cap', hv, hc, hB, hb, hl, hm, h1, h2, h3⟩
  · injection h with h1; cases h1
  · injection hv with e1 e2 e3
    injection e1 with e1
    injection e1 with e1 e2'
    subst e1 e2' e3
    rw [by8_len] at e2 hl
    have hsome : ∃ v, w.cell? ⟨b, off + k, none⟩ = some v := Option.isSome_iff_exists.1 (h2 k (by omega))
    obtain ⟨v0, hv0⟩ := hsome
    refine .inr ⟨b, off, cap, by rw [by8_len, List.length_set, e2], hc, hB, by simpa using hb, by rw [by8_len, List.length_set]; exact hl, hm, fun j u hj => ?_, fun j hj => ?_, fun j hj => ?_⟩
    · by_cases e : j = k
      · subst e
        rw [World.cell?_setCell_same _ _ _ hv0]
        unfold by8 at hj
        rw [List.getElem?_map, List.getElem?_set, if_pos rfl, if_pos (by omega)] at hj
        exact hj
      · rw [World.cell?_setCell_other _ _ _ _ (by intro e'; injection e'; omega)]
        refine h1 j u ?_
        unfold by8 at hj ⊢
        rw [List.getElem?_map, List.getElem?_set, if_neg (fun e' => e e'.symm)] at hj
        rw [List.getElem?_map]; exact hj
    · by_cases e : j = k
      · subst e; rw [World.cell?_setCell_same _ _ _ hv0]; rfl
      · rw [World.cell?_setCell_other _ _ _ _ (by intro e'; injection e'; omega)]
        exact h2 j hj
    · rw [World.frozen?_setCell]; exact h3 j hj
theorem own_at8 {w : World} {c : Nat → Nat} {d B : Nat} {A : Option Addr} {m cap : Nat} {ys : List Int} (h : Own w c d B (.slice A m cap) (by8 ys)) (k : Nat) (hk : k < m) :
    ∃ b off y, A = some ⟨b, off, none⟩ ∧ c b = d ∧ B ≤ b ∧ b < w.heap.size ∧ w.cell? ⟨b, off + k, none⟩ = some (.int .u8 y) ∧ w.frozen? ⟨b, off + k, none⟩ = false := by
  rcases h with ⟨h, _⟩ | ⟨b, off, cap', hv, hc, hB, hb, hl, hm, h1, h2, h3⟩
  · injection h with h1 h2; omega
  · injection hv with e1 e2 e3
    rw [by8_len] at e2 hl
    refine ⟨b, off, ys[k]'(by omega), e1, hc, hB, hb, h1 k _ ?_, h3 k (by omega)⟩
    unfold by8
    rw [List.getElem?_map, List.getElem?_eq_getElem (by omega)]; rfl
end Go.Proofs.Ytfhgdhkadhhjoaa
