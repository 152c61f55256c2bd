/- A proof of the closed statement on sieves, both ends, and sieves that are none: Rows.SieveKnownSaid; it takes no input. -/
import Derived.Below
import Derived.LoopN
import Derived.LoopTactic
import Derived.OpenShut
import Derived.ProofKit
import Derived.ShutString
import Derived.Test.YtobcefgangkilaaC
import Derived.Test.YtobcefgangkilaaRows
import Derived.WalkKit
namespace Go.Proofs.Ytobcefgangkilaa
open Go.RowKit

theorem put_b (n : Int) (b : Nat) (L : List Int) (w : World) (x : Bool) (y : Int) (hs : SV w b L) (h : (Sv.inB n && Sv.freshB L n) = x) (h2 : errI n = y) :
    Calls Try.prog 13 #[.pointer (some ⟨b, 0, none⟩), .int .i64 n] w fun e w' => e = .returned (.tuple #[.bool x, .int .i64 y]) ∧ Only b w w' ∧ SV w' b (Sv.putL L n) := by
  subst h; subst h2; exact put_any n b L w hs
theorem old_b (n : Int) (b : Nat) (L : List Int) (w : World) (x : Bool) (hs : SV w b L) (h : (Sv.inB n && Sv.known L n) = x) :
    Calls Try.prog 20 #[.pointer (some ⟨b, 0, none⟩), .int .i64 n] w fun e w' => e = .returned (.bool x) ∧ Only b w w' ∧ SV w' b (Sv.putL L n) := by
  subst h; exact old_any n b L w hs

set_option maxRecDepth 100000 in
theorem known_walk (w : World) :
    Calls Try.prog 10 #[] w fun e w' => e = .returned (.bool true) ∧ Below w.heap.size w w' := by
  go_enter Try.func10, Try.ntmps10
  go_wp2_with fail
  refine (new_any _).mono ?_
  rintro e w2 ⟨rfl, hb2, hz, hv⟩
  have HZ := Lib.hid hz
  clear hz
  have hs : w.heap.size ≤ w.heap.size := Nat.le_refl _
  have hbel := hb2
  clear hb2
  go_wp2_with (first
    | (go_at_call 13; refine (put_b _ _ _ _ false 9 hv (by decide) (by decide)).mono ?_; rintro e w' ⟨rfl, ho, hv2⟩; replace hbel := hbel.trans (ho.below hs); clear ho hv; have hv := hv2; clear hv2)
    | (go_at_call 15; first | (refine (has_b _ _ _ _ true hv (by decide)).mono ?_; rintro e w' ⟨rfl, rfl⟩) | (refine (has_b _ _ _ _ false hv (by decide)).mono ?_; rintro e w' ⟨rfl, rfl⟩))
    | (go_at_call 19; refine (fresh_b _ _ _ _ true hv (by decide)).mono ?_; rintro e w' ⟨rfl, ho, hv2⟩; replace hbel := hbel.trans (ho.below hs); clear ho hv; have hv := hv2; clear hv2)
    | (go_at_call 20; refine (old_b _ _ _ _ true hv (by decide)).mono ?_; rintro e w' ⟨rfl, ho, hv2⟩; replace hbel := hbel.trans (ho.below hs); clear ho hv; have hv := hv2; clear hv2)
    | fail)
  refine (new_any _).mono ?_
  rintro e w3 ⟨rfl, hb2, hz, hv⟩
  have hs3 := hbel.size
  replace hbel := hbel.trans (hb2.mono hs3)
  clear hz hb2 hs
  have hs := hs3
  clear hs3
  go_wp2_with (first
    | (go_at_call 15; first | (refine (has_b _ _ _ _ true hv (by decide)).mono ?_; rintro e w' ⟨rfl, rfl⟩) | (refine (has_b _ _ _ _ false hv (by decide)).mono ?_; rintro e w' ⟨rfl, rfl⟩))
    | (go_at_call 19; refine (fresh_b _ _ _ _ true hv (by decide)).mono ?_; rintro e w' ⟨rfl, ho, hv2⟩; replace hbel := hbel.trans (ho.below hs); clear ho hv; have hv := hv2; clear hv2)
    | (go_at_call 20; refine (old_b _ _ _ _ true hv (by decide)).mono ?_; rintro e w' ⟨rfl, ho, hv2⟩; replace hbel := hbel.trans (ho.below hs); clear ho hv; have hv := hv2; clear hv2)
    | fail)
  clear hv
  go_loopw [14, 15, 16, 17] (fun v i _ _ wr => Below w.heap.size w wr ∧ ((v = .pointer none ∧ i = .int .i64 0) ∨ ∃ q j, v = .pointer (some ⟨q, 0, none⟩) ∧ i = .int .i64 j ∧ 1 ≤ j ∧ j ≤ 2 ∧ wr.cell? ⟨q, 0, none⟩ = some (.bool false))) (fun _ i _ _ _ => 2 - (intOf i).toNat)
  case atStart => exact ⟨hbel, .inl ⟨rfl, rfl⟩⟩
  case round =>
    clear hbel
    obtain ⟨hbel, ⟨rfl, rfl⟩ | ⟨q, j, rfl, rfl, hj1, hj2, hc⟩⟩ := hrel
    · have hsz := hbel.size
      go_wp2_with (first | (go_at_call 13; refine (put_none _ _).mono ?_; rintro e w' ⟨rfl, rfl⟩) | (go_at_call 15; refine (has_none _ _).mono ?_; rintro e w' ⟨rfl, rfl⟩) | fail)
      go_roundw
      case rel => exact ⟨hbel.alloc hsz _, .inr ⟨_, 1, rfl, by go_num, by omega, by omega, by simp⟩⟩
      case measure => simp [intOf]
    · by_cases h2 : j < 2
      · obtain rfl : j = 1 := by omega
        have hsz := hbel.size
        go_wp2_with (first | (go_at_call 13; refine (put_zero _ _ _ hc).mono ?_; rintro e w' ⟨rfl, rfl⟩) | (go_at_call 15; refine (has_zero _ _ _ hc).mono ?_; rintro e w' ⟨rfl, rfl⟩) | fail)
        go_roundw
        case rel => exact ⟨hbel.alloc hsz _, .inr ⟨_, 2, rfl, by go_num, by omega, by omega, by simp⟩⟩
        case measure => simp [intOf]
      · obtain rfl : j = 2 := by omega
        have hsz := hbel.size
        go_wp2_with (first | (go_at_call 17; refine (works_any _).mono ?_; rintro e w' ⟨rfl, hb2⟩) | fail)
        go_ret
        exact ⟨rfl, hbel.trans (hb2.mono hsz)⟩
end Go.Proofs.Ytobcefgangkilaa

namespace Go.Proofs.Ytobcefgangkilaa.sieveKnown
open Go.ChangeShapes Go.WideShapes Go.ChangeAt Go.RowKit
open Go.ChangeMaps (open_string shut_string)
set_option linter.unusedVariables false      -- a walk need not use every 'w<i>' (that an integer argument fits its kind)

theorem own : ownKnob Try.prog.godebug = none := by kernel_rfl

/-! ### STEP 1: THE WALK: the Go text returns true. 'Grown w w'': the world has at most new blocks (Derived/RowKit3.lean). Part the cases AHEAD of 'go_enter' where a test parts the walk; take each callee by a contract of your own. -/
theorem walk  (w : World) :
    Calls Try.prog 10 #[] w fun e w' => e = .returned (.bool true) ∧ Below w.heap.size w w' := by
  exact known_walk w

/-! ### THE ROW's STEP: WRITTEN OUT: LEAVE IT -/
set_option maxRecDepth 100000 in
theorem lifted (os : Os) (started : os.Started) (H : Type) (enc : TypeId × Value → H) :
    ReturnsInHanded {} Try.checked os 10 .any (Rows.sieveKnownSpec.pre6 enc Try.prog Try.f10 Rows.sieveKnownRow.domain false) (Rows.sieveKnownSpec.post enc Try.prog Try.f10 false true false false) := by
  refine returnsInHanded_of_change (C := Try.checked) own started (by kernel_rfl) Try.func10
    (ChangeSpec.witness6 (enc := enc) (C := Try.checked) false ⟨#[], #[], []⟩ 8 (by kernel_rfl) (by kernel_rfl) (by kernel_rfl) (by kernel_rfl)) ?_
  intro W base args ds gs before hval0 hW hcnd _
  have hval : ∀ (j : Nat) t v, Try.f10.params[j]? = some t → args[j]? = some v → Value.okWide Try.prog W .any base t v := hval0
  have hW' := hW
  obtain ⟨p, q, hA0, hV, rfl, hfz, hnd⟩ := hW
  have hA : DataW.TrodAll enc Try.prog W 0 (fun _ => true) true Try.f10.params.toList args.toList ds p := hA0
  rw [Try.params10] at hA hval
  obtain ⟨rfl, rfl, rfl⟩ := trodAll_none hA
  obtain ⟨rfl, rfl⟩ := trodVars_none hV
  clear hA0 hval0
  simp only [List.append_nil] at hW'
  refine (walk W).mono fun e W' ⟨he, bel⟩ => ?_
  subst he
  exact ⟨_, rfl, _, _, _, [], _, [], hW', trodAll_mk1 (shut_bool Try.underlying4 _), trodAll_mk0, rfl, bel.frame _, fun h => by cases h⟩

theorem over : Rows.sieveKnownRow.holds Try.pinned (OpenSpec.ofChange Rows.sieveKnownSpec) :=
  OpenClaim.holds_of_wide 10 Try.f10 rfl rfl rfl rfl rfl rfl rfl ⟨rfl, rfl, rfl, rfl, rfl⟩ rfl rfl rfl rfl rfl (by kernel_rfl) Try.func10 (by kernel_rfl)
    (of_decide_eq_true (by kernel_rfl)) (by unfold Func.isWrapper; first | (rw [if_pos (by decide +kernel)]; kernel_rfl) | (rw [if_neg (by decide +kernel)]; exact ⟨rfl, rfl⟩))
    (fun os started H enc _ => lifted os started H enc)

/-- ████ THE STATEMENT ████ -/
theorem proved : Rows.SieveKnownSaid :=
  over
#print axioms proved
end Go.Proofs.Ytobcefgangkilaa.sieveKnown
