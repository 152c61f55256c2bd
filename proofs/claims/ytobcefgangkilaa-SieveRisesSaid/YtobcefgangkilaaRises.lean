/- A proof that in a sieve numbers that rise are all new: Rows.SieveRisesSaid, for every list of integers; no condition beyond the row's own. -/
import Derived.Below
import Derived.ChangeOld
import Derived.LoopN
import Derived.LoopTactic
import Derived.OpenShut
import Derived.ProofKit
import Derived.ShutString
import Derived.Test.YtobcefgangkilaaB
import Derived.Test.YtobcefgangkilaaRows
import Derived.WalkKit
namespace Go.Proofs.Ytobcefgangkilaa
open Go.RowKit

theorem known_above {L : List Int} {v n : Int} (h : ∀ l ∈ L, l ≤ v) (hn : v < n) : Sv.known L n = false := by
  cases hk : Sv.known L n with
  | false => rfl
  | true =>
    obtain ⟨l, hl, h1⟩ := (Sv.known_iff L n).1 hk
    have := h l hl
    omega

theorem has_f (n : Int) (b : Nat) (L : List Int) (w : World) (hs : SV w b L) (h : (Sv.inB n && Sv.known L n) = false) :
    Calls Try.prog 15 #[.pointer (some ⟨b, 0, none⟩), .int .i64 n] w fun e w' => e = .returned (.bool false) ∧ w = w' := by
  have := has_any n b L w hs
  rw [h] at this
  exact this
theorem has_t (n : Int) (b : Nat) (L : List Int) (w : World) (hs : SV w b L) (h : (Sv.inB n && Sv.known L n) = true) :
    Calls Try.prog 15 #[.pointer (some ⟨b, 0, none⟩), .int .i64 n] w fun e w' => e = .returned (.bool true) ∧ w = w' := by
  have := has_any n b L w hs
  rw [h] at this
  exact this
theorem in_of {n : Int} (h0 : 0 ≤ n) (h1 : n ≤ 9007199254740991) : Sv.inB n = true := by simp [Sv.inB, h0, h1]
theorem known_self (L : List Int) (n : Int) : Sv.known (n :: L) n = true := (Sv.known_iff _ _).2 ⟨n, by simp, .inl rfl⟩
theorem known_cons {L : List Int} {n m : Int} (h : Sv.known L n = true) : Sv.known (m :: L) n = true := by
  obtain ⟨l, hl, h⟩ := (Sv.known_iff _ _).1 h
  exact (Sv.known_iff _ _).2 ⟨l, by simp [hl], h⟩

theorem rises_empty (a : Option Addr) (cap : Nat) (w : World) :
    Calls Try.prog 6 #[.slice a 0 cap] w fun e w' => e = .returned (.bool true) ∧ Below w.heap.size w w' := by
  go_enter Try.func6, Try.ntmps6
  go_wp2_with fail
  refine (works_any _).mono ?_
  rintro e w1 ⟨rfl, hb⟩
  go_wp2_with fail
  refine (new_any _).mono ?_
  rintro e w2 ⟨rfl, hb2, hz, hv⟩
  have HZ := Lib.hid hz
  clear hz
  have hs := hb.size
  go_wp2_with fail
  go_loopw [4, 5] (fun n i wr => i = .int .i64 0 ∧ wr = w2) (fun _ i _ => 0)
  case atStart => exact ⟨rfl, rfl⟩
  case round =>
    obtain ⟨rfl, rfl⟩ := hrel
    go_wp2
    go_ret
    exact ⟨rfl, hb.trans (hb2.mono hs)⟩

set_option maxRecDepth 100000 in
theorem rises_full (b off len cap : Nat) (zs : List Int) (w : World) (hc : ∀ j, j < len → w.cell? ⟨b, off + j, none⟩ = some (.int .i64 (zs.getD j 0))) (hlt : b < w.heap.size) :
    Calls Try.prog 6 #[.slice (some ⟨b, off, none⟩) len cap] w fun e w' => e = .returned (.bool true) ∧ Below w.heap.size w w' := by
  go_enter Try.func6, Try.ntmps6
  go_wp2_with fail
  refine (works_any _).mono ?_
  rintro e w1 ⟨rfl, hb⟩
  go_wp2_with fail
  refine (new_any _).mono ?_
  rintro e w2 ⟨rfl, hb2, hz, hv⟩
  have HZ := Lib.hid hz
  clear hz
  have hs := hb.size
  have hb3 := hb.trans (hb2.mono hs)
  have HC := Lib.hid hc
  clear hc
  go_wp2_with fail
  go_loopw [4, 5] (fun n i wr => ∃ (k : Nat) (v : Int) (L : List Int), k ≤ 300 ∧ k ≤ len ∧ i = .int .i64 k ∧ n = .int .i64 v ∧ -1 ≤ v ∧ v ≤ 17592186044416 * k ∧ (∀ l ∈ L, l ≤ v) ∧ SV wr w1.heap.size L ∧ Below w.heap.size w wr) (fun _ i _ => len - (intOf i).toNat)
  case atStart => exact ⟨0, -1, [], by omega, by omega, rfl, rfl, by omega, by omega, by simp, hv, hb3⟩
  case round =>
    obtain ⟨k, v, L, hk, hkl, rfl, rfl, hv1, hv2, hL, hsv, hbel⟩ := hrel
    have HL := Lib.hid hL
    have hv3 : v ≤ 5277655813324800 := by omega
    have HV := Lib.hid hv2
    clear hL hv2
    by_cases h1 : k < len
    · by_cases h2 : k < 300
      · have hcell : wr.cell? ⟨b, off + k, none⟩ = some (.int .i64 (zs.getD k 0)) := (hbel.cell (p := ⟨b, off + k, none⟩) hlt).trans (HC.out k h1)
        generalize zs.getD k 0 = z at hcell
        have hr := brg_range z 17592186044416 (by omega)
        go_wp2_with fail
        refine (bring_any _ _ _ (by omega) (by omega)).mono ?_
        rintro e w' ⟨rfl, rfl⟩
        generalize brg z 17592186044416 = y at *
        have hkn := known_above (n := v + 1 + y) HL.out (by omega)
        have hin := in_of (n := v + 1 + y) (by omega) (by omega)
        have E1 := Lib.hid (show (Sv.inB (v + 1 + y) && Sv.known L (v + 1 + y)) = false by simp [hkn])
        have E2 := Lib.hid (show (Sv.inB (v + 1 + y) && Sv.freshB L (v + 1 + y)) = true by simp [hkn, hin, Sv.freshB])
        have E3 := Lib.hid (show Sv.putL L (v + 1 + y) = (v + 1 + y) :: L by simp [Sv.putL, hin])
        have HIN := Lib.hid hin
        clear hkn hin
        go_wp2_with fail
        refine (has_f _ _ _ _ hsv E1.out).mono ?_
        rintro e w' ⟨rfl, rfl⟩
        go_wp2_with fail
        refine (fresh_yes _ _ _ _ hsv E2.out).mono ?_
        rintro e w3 ⟨rfl, ho, hv3⟩
        rw [E3.out] at hv3
        have E4 := Lib.hid (show (Sv.inB (v + 1 + y) && Sv.known ((v + 1 + y) :: L) (v + 1 + y)) = true by simp [HIN.out, known_self])
        go_wp2_with fail
        refine (has_t _ _ _ _ hv3 E4.out).mono ?_
        rintro e w' ⟨rfl, rfl⟩
        go_wp2_with fail
        refine (old_yes _ _ _ _ hv3 E4.out).mono ?_
        rintro e w4 ⟨rfl, ho4, hv4⟩
        have E5 := Lib.hid (show Sv.putL ((v + 1 + y) :: L) (v + 1 + y) = (v + 1 + y) :: (v + 1 + y) :: L by simp [Sv.putL, HIN.out])
        rw [E5.out] at hv4
        go_wp2_with fail
        go_roundw
        case rel =>
          refine ⟨k + 1, v + 1 + y, (v + 1 + y) :: (v + 1 + y) :: L, by omega, by omega, by go_num, rfl, by omega, by have := HV.out; omega, ?_, hv4, (hbel.trans (ho.below hs)).trans (ho4.below hs)⟩
          intro l hl
          simp only [List.mem_cons] at hl
          rcases hl with rfl | rfl | hl
          · omega
          · omega
          · have := HL.out l hl; omega
        case measure => simp [intOf]; omega
      · go_wp2_with fail
        go_ret
        exact ⟨rfl, hbel⟩
    · go_wp2_with fail
      go_ret
      exact ⟨rfl, hbel⟩
end Go.Proofs.Ytobcefgangkilaa

namespace Go.Proofs.Ytobcefgangkilaa.sieveRises
open Go.ChangeShapes Go.WideShapes Go.ChangeAt Go.RowKit
open Go.ChangeMaps (open_string shut_string)
set_option linter.unusedVariables false

theorem own : ownKnob Try.prog.godebug = none := by kernel_rfl
theorem laidOut : laidOutB Try.prog = true := by kernel_rfl

/-- WHAT THE WALK IS TOLD OF A SLICE OF INTEGERS THAT CAME IN: it is nil; or it leads to a row of 'cap' cells, the numbers 'zs' (the first 'len' are its elements, the rest its spare room), each fitting its kind. -/
def IsRow (k : IntKind) (w : World) (a : Option Addr) (len cap : Nat) (zs : List Int) : Prop :=
  (a = none ∧ len = 0 ∧ cap = 0 ∧ zs = []) ∨
  ∃ x, a = some x ∧ len ≤ cap ∧ cap ≤ maxLen ∧ zs.length = cap ∧ (∀ i, i < zs.length → w.cell? (x.add i) = some (.int k (zs.getD i 0))) ∧ ∀ n ∈ zs, (Lit.int k n).wf = true

/-! ### STEP 1: THE WALK: the Go text returns true, AND WRITES NOTHING THAT WAS THERE: 'Below w.heap.size w w'' (Derived/Below.lean: '.refl', '.alloc', '.drew', '.setCell' at a new block, '.trans'). Open each 'IsRow' by 'rcases' AHEAD of 'go_enter'; part every test ahead of the walk. -/
theorem walk (a0 : Option Addr) (len0 cap0 : Nat) (z0 : List Int) (w : World) (w0 : IsRow .i64 w a0 len0 cap0 z0) :
    Calls Try.prog 6 #[.slice a0 len0 cap0] w fun e w' => e = .returned (.bool true) ∧ Below w.heap.size w w' := by
  rcases w0 with ⟨rfl, rfl, rfl, rfl⟩ | ⟨x, rfl, hl, hm, hz, hc, hwf⟩
  · exact rises_empty _ _ _
  · by_cases hp : 0 < len0
    · obtain ⟨b, off, rfl, hc2⟩ := ints_at hc (by omega)
      have hlt : b < w.heap.size := World.block_lt_of_cell? w _ (hc2 0 (by omega))
      exact rises_full b off len0 cap0 z0 w (fun j hj => hc2 j (by omega)) hlt
    · obtain rfl : len0 = 0 := by omega
      exact rises_empty _ _ _

/-! ### THE ROW's STEP: WRITTEN OUT: LEAVE IT -/
set_option maxRecDepth 100000 in
theorem lifted (os : Os) (started : os.Started) (H : Type) (enc : TypeId × Value → H) :
    ReturnsInHanded {} Try.checked os 6 .any (Rows.sieveRisesSpec.pre6 enc Try.prog Try.f6 Rows.sieveRisesRow.domain false) (Rows.sieveRisesSpec.post enc Try.prog Try.f6 false true false false) := by
  refine returnsInHanded_of_change (C := Try.checked) own started (by kernel_rfl) Try.func6
    (ChangeSpec.witness6 (enc := enc) (C := Try.checked) false ⟨#[], #[.slice none 0 0], []⟩ 8 (by kernel_rfl) (by kernel_rfl) (by kernel_rfl) (by kernel_rfl)) ?_
  intro W base args ds gs before hval0 hW hcnd _
  have hval : ∀ (j : Nat) t v, Try.f6.params[j]? = some t → args[j]? = some v → Value.okWide Try.prog W .any base t v := hval0
  have hW' := hW
  obtain ⟨p, q, hA0, hV, rfl, hfz, hnd⟩ := hW
  have hA : DataW.TrodAll enc Try.prog W 0 (fun _ => true) true Try.f6.params.toList args.toList ds p := hA0
  rw [Try.params6] at hA hval
  obtain ⟨v0, vs0, d0, ds0, p0, q0, hargs, rfl, rfl, h0, r0⟩ := trodAll_cons hA
  obtain ⟨rfl, rfl, rfl⟩ := trodAll_nil r0
  obtain rfl : args = #[v0] := by cases args; simp_all
  obtain ⟨rfl, rfl⟩ := trodVars_none hV
  obtain ⟨a0, len0, cap0, rfl⟩ := okWide_slice Try.underlying22 (hval 0 22 v0 rfl rfl)
  have k0 := h0
  have lt0 : ∀ x ∈ p0, x.block < W.heap.size := by obtain ⟨m, hm⟩ := k0; exact DataW.trod_lt m _ _ _ hm
  obtain ⟨z0, w0⟩ : ∃ zs, IsRow .i64 W a0 len0 cap0 zs := by
    obtain ⟨fuel, hf⟩ := h0
    rcases open_ints Try.underlying22 Try.underlying3 (by kernel_rfl) hf with ⟨hcs, _⟩ | ⟨x, l, c, zs, hcs, _, hl, hm, hz, _, hcell, hwz⟩
    · simp [Value.cells] at hcs
      obtain ⟨rfl, rfl, rfl⟩ := hcs
      exact ⟨[], .inl ⟨rfl, rfl, rfl, rfl⟩⟩
    · simp [Value.cells] at hcs
      obtain ⟨rfl, rfl, rfl⟩ := hcs
      exact ⟨zs, .inr ⟨_, rfl, hl, hm, by simpa using hz, hcell, hwz⟩⟩
  clear hA0 hval0
  refine (walk a0 len0 cap0 z0 W w0).mono fun e W' ⟨he, bel⟩ => ?_
  subst he
  exact ⟨_, rfl, _, _, _, [], _, [], hW', trodAll_mk1 (shut_bool Try.underlying4 _), (trodAll_cons_mk (Below.trod laidOut (by kernel_rfl) (of_decide_eq_true (by kernel_rfl)) k0 bel lt0) trodAll_mk0), rfl, bel.frame _, fun h => by cases h⟩

theorem over : Rows.sieveRisesRow.holds Try.pinned (OpenSpec.ofChange Rows.sieveRisesSpec) :=
  OpenClaim.holds_of_wide 6 Try.f6 rfl rfl rfl rfl rfl rfl rfl ⟨rfl, rfl, rfl, rfl, rfl⟩ rfl rfl rfl rfl rfl (by kernel_rfl) Try.func6 (by kernel_rfl)
    (of_decide_eq_true (by kernel_rfl)) (by unfold Func.isWrapper; first | (rw [if_pos (by decide +kernel)]; kernel_rfl) | (rw [if_neg (by decide +kernel)]; exact ⟨rfl, rfl⟩))
    (fun os started H enc _ => lifted os started H enc)

/-- ████ THE STATEMENT ████ -/
theorem proved : Rows.SieveRisesSaid := over
#print axioms proved
end Go.Proofs.Ytobcefgangkilaa.sieveRises
