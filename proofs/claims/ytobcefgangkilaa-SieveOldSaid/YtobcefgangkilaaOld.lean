/- A proof that in a sieve what is 64 or more below the greatest number is known, and what is less below it is not, if it did not come: Rows.SieveOldSaid, for all pairs of integers; no condition beyond the row's own. -/
import Derived.Below
import Derived.LoopN
import Derived.LoopTactic
import Derived.OpenShut
import Derived.ProofKit
import Derived.ShutString
import Derived.Test.YtobcefgangkilaaB
import Derived.Test.YtobcefgangkilaaRows
import Derived.WalkKit
namespace Go.Proofs.Ytobcefgangkilaa
open Go.RowKit

theorem in_of {n : Int} (h0 : 0 ≤ n) (h1 : n ≤ 9007199254740991) : Sv.inB n = true := by simp [Sv.inB, h0, h1]
theorem has_b (n : Int) (b : Nat) (L : List Int) (w : World) (x : Bool) (hs : SV w b L) (h : (Sv.inB n && Sv.known L n) = x) :
    Calls Try.prog 15 #[.pointer (some ⟨b, 0, none⟩), .int .i64 n] w fun e w' => e = .returned (.bool x) ∧ w = w' := by
  subst h; exact has_any n b L w hs
theorem fresh_b (n : Int) (b : Nat) (L : List Int) (w : World) (x : Bool) (hs : SV w b L) (h : (Sv.inB n && Sv.freshB L n) = x) :
    Calls Try.prog 19 #[.pointer (some ⟨b, 0, none⟩), .int .i64 n] w fun e w' => e = .returned (.bool x) ∧ Only b w w' ∧ SV w' b (Sv.putL L n) := by
  subst h; exact fresh_any n b L w hs

theorem out_lo {L : List Int} {n : Int} (h : n < 0) : (Sv.inB n && Sv.known L n) = false := by
  have : ¬ (0 ≤ n) := by omega
  simp [Sv.inB, this]

set_option maxRecDepth 100000 in
theorem old_walk (n0 by0 : Int) (w : World) :
    Calls Try.prog 7 #[.int .i64 n0, .int .i64 by0] w fun e w' => e = .returned (.bool true) ∧ Below w.heap.size w w' := by
  go_enter Try.func7, Try.ntmps7
  go_wp2_with fail
  refine (works_any _).mono ?_
  rintro e w1 ⟨rfl, hb⟩
  have hr := brg_range n0 9007199254740992 (by omega)
  go_wp2_with fail
  refine (bring_any _ _ _ (by omega) (by omega)).mono ?_
  rintro e w' ⟨rfl, rfl⟩
  generalize brg n0 9007199254740992 = n at *
  have hr2 := brg_range by0 130 (by omega)
  go_wp2_with fail
  refine (bring_any _ _ _ (by omega) (by omega)).mono ?_
  rintro e w' ⟨rfl, rfl⟩
  generalize brg by0 130 = d at *
  go_wp2_with fail
  refine (new_any _).mono ?_
  rintro e w2 ⟨rfl, hb2, hz, hv⟩
  have HZ := Lib.hid hz
  clear hz
  have hs := hb.size
  have hb3 := hb.trans (hb2.mono hs)
  obtain ⟨hn0, hn1⟩ := hr
  obtain ⟨hd0, hd1⟩ := hr2
  have hin := in_of hn0 (by omega)
  have E1 := Lib.hid (show (Sv.inB n && Sv.known [] n) = false by simp [Sv.known])
  have E2 := Lib.hid (show (Sv.inB n && Sv.freshB [] n) = true by simp [hin, Sv.known, Sv.freshB])
  have E3 := Lib.hid (show Sv.putL [] n = [n] by simp [Sv.putL, hin])
  have E4 := Lib.hid (show (Sv.inB n && Sv.known [n] n) = true by simp [hin, Sv.known])
  clear hin
  go_wp2_with fail
  refine (has_b _ _ _ _ _ hv E1.out).mono ?_
  rintro e w' ⟨rfl, rfl⟩
  go_wp2_with fail
  refine (fresh_b _ _ _ _ _ hv E2.out).mono ?_
  rintro e w3 ⟨rfl, ho, hv3⟩
  rw [E3.out] at hv3
  go_wp2_with fail
  refine (has_b _ _ _ _ _ hv3 E4.out).mono ?_
  rintro e w' ⟨rfl, rfl⟩
  have hbel3 := hb3.trans (ho.below hs)
  clear ho hv hb hb2 hb3 E1 E2 E3 E4
  by_cases hneg : n - d < 0
  · have E5 := Lib.hid (show (Sv.inB (n - d) && Sv.known [n] (n - d)) = false from out_lo (by omega))
    have hneg' : n < d := by omega
    go_wp2_with fail
    refine (has_b _ _ _ _ _ hv3 E5.out).mono ?_
    rintro e w' ⟨rfl, rfl⟩
    go_wp2_with fail
    go_ret
    exact ⟨rfl, hbel3⟩
  · have hin := in_of (n := n - d) (by omega) (by omega)
    have hneg' : d ≤ n := by omega
    have hk : Sv.known [n] (n - d) = (decide (d = 0) || decide (64 ≤ d)) := by
      rw [Bool.eq_iff_iff, Sv.known_iff]; simp; omega
    by_cases h1 : d = 0
    · have E5 := Lib.hid (show (Sv.inB (n - d) && Sv.known [n] (n - d)) = true by rw [hin, hk]; simp [h1])
      have E6 := Lib.hid (show (Sv.inB (n - d) && Sv.freshB [n] (n - d)) = false by unfold Sv.freshB; rw [hk]; simp [h1])
      have h2 : (d == 0) = true := by simp [h1]
      have h3 : ¬ (0 < d) := by omega
      clear hk hin h1 hneg
      go_wp2_with fail
      refine (has_b _ _ _ _ _ hv3 E5.out).mono ?_
      rintro e w' ⟨rfl, rfl⟩
      go_wp2_with fail
      refine (fresh_b _ _ _ _ _ hv3 E6.out).mono ?_
      rintro e w4 ⟨rfl, ho, hv4⟩
      go_wp2_with fail
      go_ret
      exact ⟨by first | rfl | (refine ret_bool ?_; simp; omega), hbel3.trans (ho.below hs)⟩
    · by_cases h64 : 64 ≤ d
      · have E5 := Lib.hid (show (Sv.inB (n - d) && Sv.known [n] (n - d)) = true by simp [hin, hk, h64])
        have E6 := Lib.hid (show (Sv.inB (n - d) && Sv.freshB [n] (n - d)) = false by simp [hk, h64, Sv.freshB])
        have h2 : (d == 0) = false := by simp [h1]
        have h3 : 0 < d := by omega
        clear hk hin h1 hneg
        go_wp2_with fail
        refine (has_b _ _ _ _ _ hv3 E5.out).mono ?_
        rintro e w' ⟨rfl, rfl⟩
        go_wp2_with fail
        refine (fresh_b _ _ _ _ _ hv3 E6.out).mono ?_
        rintro e w4 ⟨rfl, ho, hv4⟩
        go_wp2_with fail
        go_ret
        show Ending.returned (Value.bool _) = _ ∧ _
        exact ⟨by first | rfl | (refine ret_bool ?_; simp; omega), hbel3.trans (ho.below hs)⟩
      · have E5 := Lib.hid (show (Sv.inB (n - d) && Sv.known [n] (n - d)) = false by simp [hk, h64, h1])
        have E6 := Lib.hid (show (Sv.inB (n - d) && Sv.freshB [n] (n - d)) = true by simp [hin, hk, h64, h1, Sv.freshB])
        have h2 : (d == 0) = false := by simp [h1]
        have h3 : 0 < d := by omega
        clear hk hin h1 hneg
        go_wp2_with fail
        refine (has_b _ _ _ _ _ hv3 E5.out).mono ?_
        rintro e w' ⟨rfl, rfl⟩
        go_wp2_with fail
        refine (fresh_b _ _ _ _ _ hv3 E6.out).mono ?_
        rintro e w4 ⟨rfl, ho, hv4⟩
        go_wp2_with fail
        go_ret
        show Ending.returned (Value.bool _) = _ ∧ _
        exact ⟨by first | rfl | (refine ret_bool ?_; simp; omega), hbel3.trans (ho.below hs)⟩
end Go.Proofs.Ytobcefgangkilaa

namespace Go.Proofs.Ytobcefgangkilaa.sieveOld
open Go.ChangeShapes Go.WideShapes Go.ChangeAt Go.RowKit
open Go.ChangeMaps (open_string shut_string)
set_option linter.unusedVariables false      -- a walk need not use every 'w<i>' (that an integer argument fits its kind)

theorem own : ownKnob Try.prog.godebug = none := by kernel_rfl

/-! ### STEP 1: THE WALK: the Go text returns true. 'Grown w w'': the world has at most new blocks (Derived/RowKit3.lean). Part the cases AHEAD of 'go_enter' where a test parts the walk; take each callee by a contract of your own. -/
theorem walk (a0 : Int) (a1 : Int) (w0 : (Lit.int .i64 a0).wf = true) (w1 : (Lit.int .i64 a1).wf = true) (w : World) :
    Calls Try.prog 7 #[.int .i64 a0, .int .i64 a1] w fun e w' => e = .returned (.bool true) ∧ Below w.heap.size w w' := by
  exact old_walk a0 a1 w

/-! ### THE ROW's STEP: WRITTEN OUT: LEAVE IT -/
set_option maxRecDepth 100000 in
theorem lifted (os : Os) (started : os.Started) (H : Type) (enc : TypeId × Value → H) :
    ReturnsInHanded {} Try.checked os 7 .any (Rows.sieveOldSpec.pre6 enc Try.prog Try.f7 Rows.sieveOldRow.domain false) (Rows.sieveOldSpec.post enc Try.prog Try.f7 false true false false) := by
  refine returnsInHanded_of_change (C := Try.checked) own started (by kernel_rfl) Try.func7
    (ChangeSpec.witness6 (enc := enc) (C := Try.checked) false ⟨#[], #[.int .i64 0, .int .i64 0], []⟩ 8 (by kernel_rfl) (by kernel_rfl) (by kernel_rfl) (by kernel_rfl)) ?_
  intro W base args ds gs before hval0 hW hcnd _
  have hval : ∀ (j : Nat) t v, Try.f7.params[j]? = some t → args[j]? = some v → Value.okWide Try.prog W .any base t v := hval0
  have hW' := hW
  obtain ⟨p, q, hA0, hV, rfl, hfz, hnd⟩ := hW
  have hA : DataW.TrodAll enc Try.prog W 0 (fun _ => true) true Try.f7.params.toList args.toList ds p := hA0
  rw [Try.params7] at hA hval
  obtain ⟨v0, vs0, d0, ds0, p0, q0, hargs, rfl, rfl, h0, r0⟩ := trodAll_cons hA
  obtain ⟨v1, vs1, d1, ds1, p1, q1, rfl, rfl, rfl, h1, r1⟩ := trodAll_cons r0
  obtain ⟨rfl, rfl, rfl⟩ := trodAll_nil r1
  obtain rfl : args = #[v0, v1] := by cases args; simp_all
  obtain ⟨rfl, rfl⟩ := trodVars_none hV
  obtain ⟨a0, rfl, rfl, rfl, w0⟩ := open_int Try.underlying3 (hval 0 3 v0 rfl rfl) h0
  obtain ⟨a1, rfl, rfl, rfl, w1⟩ := open_int Try.underlying3 (hval 1 3 v1 rfl rfl) h1
  clear hA0 hval0
  simp only [List.append_nil] at hW'
  refine (walk a0 a1 w0 w1 W).mono fun e W' ⟨he, bel⟩ => ?_
  subst he
  exact ⟨_, rfl, _, _, _, [], _, [], hW', trodAll_mk1 (shut_bool Try.underlying4 _), (trodAll_cons_mk (shut_int Try.underlying3 w0) (trodAll_cons_mk (shut_int Try.underlying3 w1) trodAll_mk0)), rfl, bel.frame _, fun h => by cases h⟩

theorem over : Rows.sieveOldRow.holds Try.pinned (OpenSpec.ofChange Rows.sieveOldSpec) :=
  OpenClaim.holds_of_wide 7 Try.f7 rfl rfl rfl rfl rfl rfl rfl ⟨rfl, rfl, rfl, rfl, rfl⟩ rfl rfl rfl rfl rfl (by kernel_rfl) Try.func7 (by kernel_rfl)
    (of_decide_eq_true (by kernel_rfl)) (by unfold Func.isWrapper; first | (rw [if_pos (by decide +kernel)]; kernel_rfl) | (rw [if_neg (by decide +kernel)]; exact ⟨rfl, rfl⟩))
    (fun os started H enc _ => lifted os started H enc)

/-- ████ THE STATEMENT ████ -/
theorem proved : Rows.SieveOldSaid :=
  over
#print axioms proved
end Go.Proofs.Ytobcefgangkilaa.sieveOld
