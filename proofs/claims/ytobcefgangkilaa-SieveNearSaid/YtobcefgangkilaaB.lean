/- The contracts of a sieve's calls: within, Has, Put, New, and the statements' fresh, old, works, Bring. -/
import Derived.Test.YtobcefgangkilaaA
import Derived.Test.YtobcefgangkilaaProg
import Derived.WalkKit
import Derived.Below
import Derived.Lib.Hide
import Derived.Deep.QuietTactic
import Derived.BigQuiet
import Derived.Outline
import Derived.RegionTactic
import Derived.BigRegion
import Derived.ChangeAlike
import Derived.IntWalk
import Derived.WalkSmall
import Derived.Laws.Bits64b
namespace Go.Proofs.Ytobcefgangkilaa
open Go.RowKit

/-- Block b alone may have turned. -/
structure Only (b : Nat) (w w' : World) : Prop where
  os : w'.os = w.os
  tape : w'.tape = w.tape
  output : w'.output = w.output
  size : w'.heap.size = w.heap.size
  block : ∀ k, k ≠ b → w'.heap[k]? = w.heap[k]?

theorem Only.refl (b : Nat) (w : World) : Only b w w := ⟨rfl, rfl, rfl, rfl, fun _ _ => rfl⟩
theorem Only.below {b B : Nat} {w w' : World} (h : Only b w w') (hb : B ≤ b) : Below B w w' :=
  ⟨h.os, h.tape, h.output, by rw [h.size]; exact Nat.le_refl _, fun k hk => h.block k (by omega)⟩
theorem Only.drew {b : Nat} {w w' : World} (h : Only b w w') : Only b w w'.drew := ⟨h.os, h.tape, h.output, h.size, h.block⟩
theorem Only.setCell {b : Nat} {w w' : World} (h : Only b w w') (o : Nat) (v : Value) : Only b w (w'.setCell ⟨b, o, none⟩ v) :=
  ⟨h.os, h.tape, h.output, by rw [← h.size]; simp [World.setCell], fun k hk => by rw [← h.block k hk]; exact Below.heap_setCell _ _ _ _ hk⟩

/-- Block b is a sieve to which the numbers L came. -/
def SV (w : World) (b : Nat) (L : List Int) : Prop :=
  ∃ next m, Sv.Inv next m L ∧ w.heap[b]? = some (.cells #[.bool true, .int .i64 next, .int .u64 (m : Int)] 41 (0, 0))

theorem SV.lt {w : World} {b : Nat} {L : List Int} (h : SV w b L) : b < w.heap.size := by
  obtain ⟨_, _, _, h⟩ := h
  exact (Array.getElem?_eq_some_iff.1 h).1

theorem SV.of_block {w w' : World} {b : Nat} {L : List Int} (h : SV w b L) (e : w'.heap[b]? = w.heap[b]?) : SV w' b L := by
  obtain ⟨n, m, i, h⟩ := h
  exact ⟨n, m, i, e.trans h⟩

theorem cell_at {w : World} {b o : Nat} {c : Array Value} {v : Value} (h : w.heap[b]? = some (.cells c 41 (0, 0))) (hv : c[o]? = some v) : w.cell? ⟨b, o, none⟩ = some v := by
  simp [World.cell?, h, hv]
theorem free_at {w : World} {b o : Nat} {c : Array Value} (h : w.heap[b]? = some (.cells c 41 (0, 0))) : w.frozen? ⟨b, o, none⟩ = false := by
  simp [World.frozen?, h]
theorem set_at {w : World} {b o : Nat} {c : Array Value} {v : Value} (h : w.heap[b]? = some (.cells c 41 (0, 0))) : (w.setCell ⟨b, o, none⟩ v).heap[b]? = some (.cells (c.setIfInBounds o v) 41 (0, 0)) := by
  simp only [World.setCell, Array.getElem?_modify, h]
  simp
theorem drew_at {w : World} {b : Nat} {x : Option Obj} (h : w.heap[b]? = x) : w.drew.heap[b]? = x := h

theorem within_yes (n : Int) (w : World) (h : 0 ≤ n) (h2 : n ≤ 9007199254740991) :
    Calls Try.prog 21 #[.int .i64 n] w fun e w' => e = .returned (.bool true) ∧ w = w' := by
  go_enter Try.func21, Try.ntmps21
  go_wp2
  go_ret
  all_goals simp
theorem within_lo (n : Int) (w : World) (h : n < 0) :
    Calls Try.prog 21 #[.int .i64 n] w fun e w' => e = .returned (.bool false) ∧ w = w' := by
  go_enter Try.func21, Try.ntmps21
  go_wp2
  go_ret
  all_goals simp
theorem within_hi (n : Int) (w : World) (h0 : 0 ≤ n) (h : 9007199254740991 < n) :
    Calls Try.prog 21 #[.int .i64 n] w fun e w' => e = .returned (.bool false) ∧ w = w' := by
  go_enter Try.func21, Try.ntmps21
  go_wp2
  go_ret
  all_goals simp [h]
theorem within_no (n : Int) (w : World) (h : n < 0 ∨ 9007199254740991 < n) :
    Calls Try.prog 21 #[.int .i64 n] w fun e w' => e = .returned (.bool false) ∧ w = w' := by
  by_cases h0 : n < 0
  · exact within_lo n w h0
  · exact within_hi n w (by omega) (by omega)

theorem ret_bool {a b : Bool} (h : a = b) : Ending.returned (.bool a) = .returned (.bool b) := by rw [h]

theorem odd_iff (m k : Nat) : (m / 2 ^ k % 2 = 1) = (m.testBit k = true) := by
  rw [Nat.testBit_eq_decide_div_mod_eq]; simp

theorem bit_at (m : Nat) (hm : m < 2 ^ 64) (k : Nat) : (bits BinOp.and IntKind.u64 ((m : Int) / 2 ^ k) 1 == 1) = m.testBit k := by
  have h1 : ((m : Int) / 2 ^ k) = ((m / 2 ^ k : Nat) : Int) := by
    rw [Int.natCast_ediv]; simp
  have h2 : m / 2 ^ k ≤ m := Nat.div_le_self _ _
  rw [h1, Nat.testBit_eq_decide_div_mod_eq]
  generalize m / 2 ^ k = q at *
  rw [and_one_u64 _ (by omega) (by omega)]
  rw [Bool.eq_iff_iff, beq_iff_eq, decide_eq_true_eq]
  omega

theorem has_in (n : Int) (b : Nat) (next : Int) (m : Nat) (w : World) (hm : m < 2 ^ 64) (h1 : 0 ≤ n) (h2 : n ≤ 9007199254740991) 
   (c0 : w.cell? ⟨b, 0, none⟩ = some (.bool true)) (c1 : w.cell? ⟨b, 1, none⟩ = some (.int .i64 next)) (c2 : w.cell? ⟨b, 2, none⟩ = some (.int .u64 (m : Int))) 
   (n1 : 0 ≤ next) (n2 : next ≤ 9007199254740992) :
    Calls Try.prog 15 #[.pointer (some ⟨b, 0, none⟩), .int .i64 n] w fun e w' => e = .returned (.bool (Sv.hasB next m n)) ∧ w = w' := by
  have HM := Lib.hid hm
  clear hm
  go_enter Try.func15, Try.ntmps15
  go_wp2_with (go_at_call 21; refine (within_yes _ _ h1 h2).mono ?_; rintro e w' ⟨rfl, rfl⟩)
  all_goals go_ret
  all_goals refine ⟨?_, rfl⟩
  all_goals show Ending.returned (Value.bool _) = _
  · rename_i ha hb
    refine ret_bool ?_
    unfold Sv.hasB
    rw [bit_at m HM.out]
    have : decide (0 ≤ next - 1 - n) = true := by simp; omega
    rw [this]; simp
  · rename_i ha hb
    refine ret_bool ?_
    unfold Sv.hasB
    have : decide (0 ≤ next - 1 - n) = false := by simp; omega
    rw [this]; simp
  · rename_i ha
    refine ret_bool ?_
    unfold Sv.hasB
    have : decide (64 ≤ next - 1 - n) = true := by simp; omega
    rw [this]; simp

/-- Has: true just if the number may be and is known. -/
theorem has_any (n : Int) (b : Nat) (L : List Int) (w : World) (hs : SV w b L) :
    Calls Try.prog 15 #[.pointer (some ⟨b, 0, none⟩), .int .i64 n] w fun e w' => e = .returned (.bool (Sv.inB n && Sv.known L n)) ∧ w = w' := by
  obtain ⟨next, m, i, hb⟩ := hs
  have c0 := cell_at (o := 0) hb rfl
  have c1 := cell_at (o := 1) hb rfl
  have c2 := cell_at (o := 2) hb rfl
  have n1 := i.n0
  have n2 := i.n1
  by_cases h1 : 0 ≤ n
  · by_cases h2 : n ≤ 9007199254740991
    · refine (has_in n b next m w i.m64 h1 h2 c0 c1 c2 n1 n2).mono ?_
      rintro e w' ⟨rfl, rfl⟩
      refine ⟨?_, rfl⟩
      rw [i.has n h1]
      simp [Sv.inB, h1, h2]
    · have e : (Sv.inB n && Sv.known L n) = false := by simp [Sv.inB, h2]
      rw [e]
      clear hb i e n1 n2 c1 c2
      go_enter Try.func15, Try.ntmps15
      go_wp2_with (go_at_call 21; refine (within_no _ _ (.inr (by omega))).mono ?_; rintro e w' ⟨rfl, rfl⟩)
      go_ret
      simp
  · have e : (Sv.inB n && Sv.known L n) = false := by simp [Sv.inB, h1]
    rw [e]
    clear hb i e n1 n2 c1 c2
    go_enter Try.func15, Try.ntmps15
    go_wp2_with (go_at_call 21; refine (within_no _ _ (.inl (by omega))).mono ?_; rintro e w' ⟨rfl, rfl⟩)
    go_ret
    simp

theorem has_none (n : Int) (w : World) :
    Calls Try.prog 15 #[.pointer none, .int .i64 n] w fun e w' => e = .returned (.bool false) ∧ w = w' := by
  go_enter Try.func15, Try.ntmps15
  go_wp2
  go_ret
  simp

theorem has_zero (n : Int) (b : Nat) (w : World) (c0 : w.cell? ⟨b, 0, none⟩ = some (.bool false)) :
    Calls Try.prog 15 #[.pointer (some ⟨b, 0, none⟩), .int .i64 n] w fun e w' => e = .returned (.bool false) ∧ w = w' := by
  go_enter Try.func15, Try.ntmps15
  go_wp2
  go_ret
  simp

theorem put_none (n : Int) (w : World) :
    Calls Try.prog 13 #[.pointer none, .int .i64 n] w fun e w' => e = .returned (.tuple #[.bool false, .int .i64 1]) ∧ w = w' := by
  go_enter Try.func13, Try.ntmps13
  go_wp2
  go_ret2
  simp

theorem put_zero (n : Int) (b : Nat) (w : World) (c0 : w.cell? ⟨b, 0, none⟩ = some (.bool false)) :
    Calls Try.prog 13 #[.pointer (some ⟨b, 0, none⟩), .int .i64 n] w fun e w' => e = .returned (.tuple #[.bool false, .int .i64 1]) ∧ w = w' := by
  go_enter Try.func13, Try.ntmps13
  go_wp2
  go_ret2
  simp

/-- Put of a number that may not be. -/
theorem put_out (n : Int) (b : Nat) (w : World) (c0 : w.cell? ⟨b, 0, none⟩ = some (.bool true)) (h : n < 0 ∨ 9007199254740991 < n) :
    Calls Try.prog 13 #[.pointer (some ⟨b, 0, none⟩), .int .i64 n] w fun e w' => e = .returned (.tuple #[.bool false, .int .i64 9]) ∧ w = w' := by
  have H := Lib.hid h
  clear h
  go_enter Try.func13, Try.ntmps13
  go_wp2_with (go_at_call 21; refine (within_no _ _ H.out).mono ?_; rintro e w' ⟨rfl, rfl⟩)
  go_ret2
  simp

/-- Put of one that is known. -/
theorem put_old (n : Int) (b : Nat) (L : List Int) (w : World) (hs : SV w b L) (h1 : 0 ≤ n) (h2 : n ≤ 9007199254740991) (hk : Sv.known L n = true) :
    Calls Try.prog 13 #[.pointer (some ⟨b, 0, none⟩), .int .i64 n] w fun e w' => e = .returned (.tuple #[.bool false, .int .i64 0]) ∧ w = w' := by
  have hh := has_any n b L w hs
  have e : (Sv.inB n && Sv.known L n) = true := by simp [Sv.inB, h1, h2, hk]
  rw [e] at hh
  obtain ⟨next, m, i, hb⟩ := hs
  have c0 := cell_at (o := 0) hb rfl
  have H := Lib.hid hh
  clear hb i e hk hh
  go_enter Try.func13, Try.ntmps13
  go_wp2_with (first | (go_at_call 21; refine (within_yes _ _ h1 h2).mono ?_; rintro e w' ⟨rfl, rfl⟩) | (go_at_call 15; refine H.out.mono ?_; rintro e w' ⟨rfl, rfl⟩))
  go_ret2
  simp

theorem put_up (n : Int) (b : Nat) (next last : Int) (w : World) (hh : Calls Try.prog 15 #[.pointer (some ⟨b, 0, none⟩), .int .i64 n] w fun e w' => e = .returned (.bool false) ∧ w = w') (h1 : 0 ≤ n) (h2 : n ≤ 9007199254740991)
   (c0 : w.cell? ⟨b, 0, none⟩ = some (.bool true)) (c1 : w.cell? ⟨b, 1, none⟩ = some (.int .i64 next)) (c2 : w.cell? ⟨b, 2, none⟩ = some (.int .u64 last)) 
   (f1 : w.frozen? ⟨b, 1, none⟩ = false) (f2 : w.frozen? ⟨b, 2, none⟩ = false)
   (n1 : 0 ≤ next) (n2 : next ≤ 9007199254740992) (hn : next ≤ n) :
    Calls Try.prog 13 #[.pointer (some ⟨b, 0, none⟩), .int .i64 n] w fun e w' => e = .returned (.tuple #[.bool true, .int .i64 0]) ∧
      w' = (((w.setCell ⟨b, 2, none⟩ (.int .u64 (IntKind.u64.wrap (last * 2 ^ min (n + 1 - next).toNat 64)))).setCell ⟨b, 1, none⟩ (.int .i64 (n + 1))).setCell ⟨b, 2, none⟩
        (.int .u64 (bits BinOp.or .u64 (IntKind.u64.wrap (last * 2 ^ min (n + 1 - next).toNat 64)) 1))).drew.drew := by
  have H := Lib.hid hh
  clear hh
  go_enter Try.func13, Try.ntmps13
  go_wp2_with (first | (go_at_call 21; refine (within_yes _ _ h1 h2).mono ?_; rintro e w' ⟨rfl, rfl⟩) | (go_at_call 15; refine H.out.mono ?_; rintro e w' ⟨rfl, rfl⟩))
  have e1 : IntKind.i64.wrap (n + 1) = n + 1 := by simp [IntKind.wrap, IntKind.bits, IntKind.signed]; omega
  have e2 : IntKind.i64.wrap (n + 1 - next) = n + 1 - next := by simp [IntKind.wrap, IntKind.bits, IntKind.signed]; omega
  have e3 : IntKind.u64.wrap (n + 1 - next) = n + 1 - next := by simp [IntKind.wrap, IntKind.bits, IntKind.signed]; omega
  have e4 : 0 ≤ n + 1 - next := by omega
  have e5 : next ≤ n + 1 := by omega
  go_region
  clear e1 e2 e3 e4 e5
  go_wp2
  go_region
  go_wp2
  go_ret2
  exact ⟨rfl, rfl⟩

theorem put_dn (n : Int) (b : Nat) (next last : Int) (w : World) (hh : Calls Try.prog 15 #[.pointer (some ⟨b, 0, none⟩), .int .i64 n] w fun e w' => e = .returned (.bool false) ∧ w = w') (h1 : 0 ≤ n) (h2 : n ≤ 9007199254740991)
   (c0 : w.cell? ⟨b, 0, none⟩ = some (.bool true)) (c1 : w.cell? ⟨b, 1, none⟩ = some (.int .i64 next)) (c2 : w.cell? ⟨b, 2, none⟩ = some (.int .u64 last)) 
   (f2 : w.frozen? ⟨b, 2, none⟩ = false)
   (n1 : 0 ≤ next) (n2 : next ≤ 9007199254740992) (hn : n < next) (hd : next - 1 - n < 64) :
    Calls Try.prog 13 #[.pointer (some ⟨b, 0, none⟩), .int .i64 n] w fun e w' => e = .returned (.tuple #[.bool true, .int .i64 0]) ∧
      w' = (w.setCell ⟨b, 2, none⟩ (.int .u64 (bits BinOp.or .u64 last (IntKind.u64.wrap (2 ^ (next - 1 - n).toNat))))).drew := by
  have H := Lib.hid hh
  clear hh
  go_enter Try.func13, Try.ntmps13
  go_wp2_with (first | (go_at_call 21; refine (within_yes _ _ h1 h2).mono ?_; rintro e w' ⟨rfl, rfl⟩) | (go_at_call 15; refine H.out.mono ?_; rintro e w' ⟨rfl, rfl⟩))
  have e1 : IntKind.i64.wrap (next - 1) = next - 1 := by simp [IntKind.wrap, IntKind.bits, IntKind.signed]; omega
  have e2 : IntKind.i64.wrap (next - 1 - n) = next - 1 - n := by simp [IntKind.wrap, IntKind.bits, IntKind.signed]; omega
  have e4 : 0 ≤ next - 1 - n := by omega
  have e5 : n ≤ next - 1 := by omega
  go_region
  clear e1 e2 e4 e5
  go_wp2
  go_ret2
  exact ⟨rfl, rfl⟩

theorem wrap_u64 (x : Nat) : IntKind.u64.wrap (x : Int) = ((x % 2 ^ 64 : Nat) : Int) := by
  simp [IntKind.wrap, IntKind.bits, IntKind.signed]

theorem put_fresh (n : Int) (b : Nat) (L : List Int) (w : World) (hs : SV w b L) (h1 : 0 ≤ n) (h2 : n ≤ 9007199254740991) (hk : Sv.known L n = false) :
    Calls Try.prog 13 #[.pointer (some ⟨b, 0, none⟩), .int .i64 n] w fun e w' => e = .returned (.tuple #[.bool true, .int .i64 0]) ∧ Only b w w' ∧ SV w' b (n :: L) := by
  have hh := has_any n b L w hs
  have e : (Sv.inB n && Sv.known L n) = false := by simp [hk]
  rw [e] at hh
  obtain ⟨next, m, i, hb⟩ := hs
  have c0 := cell_at (o := 0) hb rfl
  have c1 := cell_at (o := 1) hb rfl
  have c2 := cell_at (o := 2) hb rfl
  have f1 := free_at (o := 1) hb
  have f2 := free_at (o := 2) hb
  by_cases hn : next ≤ n
  · refine (put_up n b next m w hh h1 h2 c0 c1 c2 f1 f2 i.n0 i.n1 hn).mono ?_
    rintro e w' ⟨rfl, rfl⟩
    refine ⟨rfl, ((((Only.refl b w).setCell _ _).setCell _ _).setCell _ _).drew.drew, n + 1, _, i.up hn h2, ?_⟩
    refine (drew_at (drew_at (set_at (set_at (set_at hb))))).trans ?_
    have e1 : ((m : Int) * 2 ^ min (n + 1 - next).toNat 64) = ((m * 2 ^ min (n + 1 - next).toNat 64 : Nat) : Int) := by simp
    rw [e1, wrap_u64]
    have e2 := bits_or_u64_nat (m * 2 ^ min (n + 1 - next).toNat 64 % 2 ^ 64) 1 (Nat.mod_lt _ (by decide)) (by decide)
    rw [show ((1 : Nat) : Int) = 1 from rfl] at e2
    rw [e2]
    rfl
  · obtain ⟨hd, j⟩ := i.down h1 (by omega) hk
    refine (put_dn n b next m w hh h1 h2 c0 c1 c2 f2 i.n0 i.n1 (by omega) hd).mono ?_
    rintro e w' ⟨rfl, rfl⟩
    refine ⟨rfl, ((Only.refl b w).setCell _ _).drew, next, _, j, ?_⟩
    refine (drew_at (set_at hb)).trans ?_
    have e1 : ((2 : Int) ^ (next - 1 - n).toNat) = ((2 ^ (next - 1 - n).toNat : Nat) : Int) := by simp
    have e3 : 2 ^ (next - 1 - n).toNat < 2 ^ 64 := Nat.pow_lt_pow_right (by decide) (by omega)
    rw [e1, wrap_u64, Nat.mod_eq_of_lt e3, bits_or_u64_nat _ _ i.m64 e3]
    rfl

/-- The error's number of a Put. -/
def errI (n : Int) : Int := if Sv.inB n then 0 else 9

/-- Put, whatever the number. -/
theorem put_any (n : Int) (b : Nat) (L : List Int) (w : World) (hs : SV w b L) :
    Calls Try.prog 13 #[.pointer (some ⟨b, 0, none⟩), .int .i64 n] w fun e w' =>
      e = .returned (.tuple #[.bool (Sv.inB n && Sv.freshB L n), .int .i64 (errI n)]) ∧ Only b w w' ∧ SV w' b (Sv.putL L n) := by
  by_cases h1 : 0 ≤ n
  · by_cases h2 : n ≤ 9007199254740991
    · have e1 : Sv.inB n = true := by simp [Sv.inB, h1, h2]
      cases hk : Sv.known L n with
      | true =>
        refine (put_old n b L w hs h1 h2 hk).mono ?_
        rintro e w' ⟨rfl, rfl⟩
        refine ⟨by simp [e1, Sv.freshB, hk, errI], Only.refl _ _, ?_⟩
        obtain ⟨next, m, i, hb⟩ := hs
        exact ⟨next, m, by simp only [Sv.putL, e1, if_true]; exact i.old h1 hk, hb⟩
      | false =>
        refine (put_fresh n b L w hs h1 h2 hk).mono ?_
        rintro e w' ⟨rfl, ho, hv⟩
        exact ⟨by simp [e1, Sv.freshB, hk, errI], ho, by simp only [Sv.putL, e1, if_true]; exact hv⟩
    · have e1 : Sv.inB n = false := by simp [Sv.inB, h2]
      have hs' := hs
      obtain ⟨next, m, i, hb⟩ := hs
      refine (put_out n b w (cell_at (o := 0) hb rfl) (.inr (by omega))).mono ?_
      rintro e w' ⟨rfl, rfl⟩
      exact ⟨by simp [e1, errI], Only.refl _ _, by simp only [Sv.putL, e1]; exact hs'⟩
  · have e1 : Sv.inB n = false := by simp [Sv.inB, h1]
    have hs' := hs
    obtain ⟨next, m, i, hb⟩ := hs
    refine (put_out n b w (cell_at (o := 0) hb rfl) (.inl (by omega))).mono ?_
    rintro e w' ⟨rfl, rfl⟩
    exact ⟨by simp [e1, errI], Only.refl _ _, by simp only [Sv.putL, e1]; exact hs'⟩

theorem fresh_any (n : Int) (b : Nat) (L : List Int) (w : World) (hs : SV w b L) :
    Calls Try.prog 19 #[.pointer (some ⟨b, 0, none⟩), .int .i64 n] w fun e w' =>
      e = .returned (.bool (Sv.inB n && Sv.freshB L n)) ∧ Only b w w' ∧ SV w' b (Sv.putL L n) := by
  have hh := put_any n b L w hs
  have e0 : (Sv.inB n && Sv.freshB L n) = (Sv.inB n && Sv.freshB L n && (errI n == 0)) := by
    unfold errI; cases Sv.inB n <;> simp
  rw [e0]
  generalize (Sv.inB n && Sv.freshB L n) = x at *
  generalize errI n = y at *
  have H := Lib.hid hh
  clear hh e0 hs
  cases x
  all_goals
    go_enter Try.func19, Try.ntmps19
    go_wp2_with (go_at_call 13; refine H.out.mono ?_; rintro e w' ⟨rfl, h1, h2⟩)
    go_ret
    exact ⟨by simp, ‹_›, ‹_›⟩

theorem old_any (n : Int) (b : Nat) (L : List Int) (w : World) (hs : SV w b L) :
    Calls Try.prog 20 #[.pointer (some ⟨b, 0, none⟩), .int .i64 n] w fun e w' =>
      e = .returned (.bool (Sv.inB n && Sv.known L n)) ∧ Only b w w' ∧ SV w' b (Sv.putL L n) := by
  have hh := put_any n b L w hs
  have e0 : (Sv.inB n && Sv.known L n) = (!(Sv.inB n && Sv.freshB L n) && (errI n == 0)) := by
    unfold errI Sv.freshB; cases Sv.inB n <;> simp
  rw [e0]
  generalize (Sv.inB n && Sv.freshB L n) = x at *
  generalize errI n = y at *
  have H := Lib.hid hh
  clear hh e0 hs
  cases x
  all_goals
    go_enter Try.func20, Try.ntmps20
    go_wp2_with (go_at_call 13; refine H.out.mono ?_; rintro e w' ⟨rfl, h1, h2⟩)
    go_ret
    exact ⟨by simp, ‹_›, ‹_›⟩

theorem new_any (w : World) :
    Calls Try.prog 11 #[] w fun e w' => e = .returned (.pointer (some ⟨w.heap.size, 0, none⟩)) ∧ Below w.heap.size w w' ∧ w'.heap.size = w.heap.size + 1 ∧ SV w' w.heap.size [] := by
  go_enter Try.func11, Try.ntmps11
  go_wp2
  go_ret
  refine ⟨rfl, (Below.refl _ _).alloc (Nat.le_refl _) _, by simp, 0, 0, Sv.Inv.nil, ?_⟩
  show (w.heap.push _)[w.heap.size]? = _
  simp

theorem fresh_yes (n : Int) (b : Nat) (L : List Int) (w : World) (hs : SV w b L) (h : (Sv.inB n && Sv.freshB L n) = true) :
    Calls Try.prog 19 #[.pointer (some ⟨b, 0, none⟩), .int .i64 n] w fun e w' => e = .returned (.bool true) ∧ Only b w w' ∧ SV w' b (Sv.putL L n) := by
  have := fresh_any n b L w hs
  rw [h] at this
  exact this
theorem old_yes (n : Int) (b : Nat) (L : List Int) (w : World) (hs : SV w b L) (h : (Sv.inB n && Sv.known L n) = true) :
    Calls Try.prog 20 #[.pointer (some ⟨b, 0, none⟩), .int .i64 n] w fun e w' => e = .returned (.bool true) ∧ Only b w w' ∧ SV w' b (Sv.putL L n) := by
  have := old_any n b L w hs
  rw [h] at this
  exact this

theorem works_any (w : World) : Calls Try.prog 17 #[] w fun e w' => e = .returned (.bool true) ∧ Below w.heap.size w w' := by
  go_enter Try.func17, Try.ntmps17
  go_wp2_with fail
  refine (new_any _).mono ?_
  rintro e w1 ⟨rfl, hb, hz, hv⟩
  have HZ := Lib.hid hz
  clear hz
  go_wp2_with fail
  refine (fresh_yes _ _ _ _ hv (by decide)).mono ?_
  rintro e w2 ⟨rfl, o2, v2⟩
  go_wp2_with fail
  refine (old_yes _ _ _ _ v2 (by decide)).mono ?_
  rintro e w3 ⟨rfl, o3, v3⟩
  go_wp2_with fail
  refine (fresh_yes _ _ _ _ v3 (by decide)).mono ?_
  rintro e w4 ⟨rfl, o4, v4⟩
  go_wp2_with fail
  refine (fresh_yes _ _ _ _ v4 (by decide)).mono ?_
  rintro e w5 ⟨rfl, o5, v5⟩
  go_wp2_with fail
  refine (old_yes _ _ _ _ v5 (by decide)).mono ?_
  rintro e w6 ⟨rfl, o6, v6⟩
  go_wp2_with fail
  refine (old_yes _ _ _ _ v6 (by decide)).mono ?_
  rintro e w7 ⟨rfl, o7, v7⟩
  go_wp2_with fail
  refine (fresh_yes _ _ _ _ v7 (by decide)).mono ?_
  rintro e w8 ⟨rfl, o8, v8⟩
  go_wp2_with fail
  refine (old_yes _ _ _ _ v8 (by decide)).mono ?_
  rintro e w9 ⟨rfl, o9, v9⟩
  go_wp2_with fail
  go_ret
  refine ⟨rfl, ?_⟩
  have hl := Nat.le_refl w.heap.size
  exact (((((((hb.trans (o2.below hl)).trans (o3.below hl)).trans (o4.below hl)).trans (o5.below hl)).trans (o6.below hl)).trans (o7.below hl)).trans (o8.below hl)).trans (o9.below hl)

/-- Bring: a number from 0 to n - 1. -/
def brg (i n : Int) : Int := if n ≤ 0 then 0 else if i.tmod n < 0 then i.tmod n + n else i.tmod n

theorem brg_range (i n : Int) (h : 0 < n) : 0 ≤ brg i n ∧ brg i n < n := by
  unfold brg
  rw [if_neg (by omega)]
  have h1 := Int.tmod_lt_of_pos i h
  have h2 := Int.lt_tmod_of_pos i h
  split <;> omega

theorem bring_any (i n : Int) (w : World) (h0 : 0 < n) (h1 : n ≤ 9223372036854775807) :
    Calls Try.prog 18 #[.int .i64 i, .int .i64 n] w fun e w' => e = .returned (.int .i64 (brg i n)) ∧ w = w' := by
  have hb := brg_range i n h0
  have e : brg i n = if i.tmod n < 0 then i.tmod n + n else i.tmod n := by unfold brg; rw [if_neg (by omega)]
  have ha := Int.tmod_lt_of_pos i h0
  have hc := Int.lt_tmod_of_pos i h0
  have E := Lib.hid e
  clear e hb
  go_enter Try.func18, Try.ntmps18
  go_wp2
  all_goals go_ret
  all_goals rw [E.out]
  all_goals show Ending.returned (Value.int _ _) = _ ∧ _
  · rw [if_pos ‹_›]; exact ⟨rfl, rfl⟩
  · rw [if_neg (by omega)]; exact ⟨rfl, rfl⟩
