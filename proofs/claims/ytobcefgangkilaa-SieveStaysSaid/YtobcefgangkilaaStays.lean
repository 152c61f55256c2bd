/- A proof that in a sieve what is known stays known, whatever comes: Rows.SieveStaysSaid, for every two lists of integers; no condition beyond the row's own. -/
import Derived.Below
import Derived.ChangeOld
import Derived.LoopN
import Derived.LoopTactic
import Derived.OpenShut
import Derived.ProofKit
import Derived.ShutString
import Derived.Test.YtobcefgangkilaaC
import Derived.Test.YtobcefgangkilaaRows
import Derived.WalkKit
namespace Go.Proofs.Ytobcefgangkilaa
open Go.RowKit

set_option maxRecDepth 100000 in
theorem stays_walk (a0 a1 : Option Addr) (len cap len2 cap2 : Nat) (zs ys : List Int) (w : World) (hr : Row w a0 len zs) (hr2 : Row w a1 len2 ys) :
    Calls Try.prog 8 #[.slice a0 len cap, .slice a1 len2 cap2] w fun e w' => e = .returned (.bool true) ∧ Below w.heap.size w w' := by
  have HR := Lib.hid hr
  have HR2 := Lib.hid hr2
  clear hr hr2
  go_enter Try.func8, Try.ntmps8
  go_wp2_with fail
  refine (works_any _).mono ?_
  rintro e w1 ⟨rfl, hb⟩
  go_wp2_with fail
  refine (new_any _).mono ?_
  rintro e w2 ⟨rfl, hb2, hz, hv⟩
  have HZ := Lib.hid hz
  clear hz
  have hs := hb.size
  have hb3 := hb.trans (hb2.mono hs)
  go_wp2_with fail
  go_loopw [6, 7] (fun t i wr => ∃ (k : Nat) (T L : List Int) (a : Option Addr) (c : Nat), k ≤ 100 ∧ k ≤ len ∧ i = .int .i64 k ∧ t = .slice a T.length c ∧ (∀ x ∈ T, (Sv.inB x && Sv.known L x) = true) ∧ T.length ≤ k ∧ SV wr w1.heap.size L ∧ OI wr (w1.heap.size + 1) (.slice a T.length c) T ∧ w1.heap.size + 1 ≤ wr.heap.size ∧ Below w.heap.size w wr) (fun _ i _ => len - (intOf i).toNat)
  case atStart => exact ⟨0, [], [], none, 0, by omega, by omega, rfl, rfl, by simp, by simp, hv, OI.nil _ _, by rw [HZ.out]; exact Nat.le_refl _, hb3⟩
  case round =>
    obtain ⟨k, T, L, a, c, hk, hkl, rfl, rfl, hT, hTk, hsv, hoi, hsz, hbel⟩ := hrel
    have HT := Lib.hid hT
    have HOI := Lib.hid hoi
    clear hT hoi hv hb3
    by_cases h1 : k < len ∧ k < 100
    · obtain ⟨h1, h2⟩ := h1
      obtain ⟨b, off, rfl, hcell⟩ := HR.out.below hbel h1
      generalize zs.getD k 0 = z at hcell
      go_wp2_with fail
      refine (put_any _ _ _ _ hsv).mono ?_
      rintro e w3 ⟨rfl, ho, hv3⟩
      have hbel3 := hbel.trans (ho.below hs)
      have hblt : b < wr.heap.size := World.block_lt_of_cell? wr _ hcell
      have hcell3 : w3.cell? ⟨b, off + k, none⟩ = some (.int .i64 z) := by
        by_cases hbb : b = w1.heap.size
        · obtain ⟨b', off', e', h'⟩ := HR.out k h1
          simp only [Option.some.injEq, Addr.mk.injEq] at e'
          omega
        · exact (World.cell?_of_block (w := wr) (a := ⟨b, off + k, none⟩) (ho.block b hbb)).trans hcell
      have HOI3 := Lib.hid (HOI.out.kept ho (by omega))
      have HS3 := Lib.hid ho.size
      have hsz3 : w1.heap.size + 1 ≤ w3.heap.size := by rw [HS3.out]; exact hsz
      generalize hL3 : Sv.putL L z = L3 at hv3
      have HT3 : Hid (∀ x ∈ T, (Sv.inB x && Sv.known L3 x) = true) := fun x hx => by rw [← hL3]; exact known_put (HT.out x hx)
      clear hL3 hcell hsv hbel ho hsz hblt HOI HT
      cases hkn : (Sv.inB z && Sv.known L3 z) with
      | true =>
        have E := Lib.hid hkn
        clear hkn
        go_wp2_with fail
        refine (has_b _ _ _ _ _ hv3 E.out).mono ?_
        rintro e w' ⟨rfl, rfl⟩
        go_wp2_with (at_builtin; refine wpList_app rfl _ _ rfl (w1.heap.size + 1) T a c z _ rfl rfl HOI3.out hsz3 (by omega) ?_; intro a' c' w4 hoi4 hb4 hsz4)
        have hv4 := hv3.of_block (hb4.block _ (by omega))
        have hbel4 := hbel3.trans (hb4.mono (by omega))
        have HOI4 := Lib.hid hoi4
        have HL4 : Hid ((T ++ [z]).length = T.length + 1) := by show _ = _; simp
        have HT4 : Hid (∀ x ∈ T ++ [z], (Sv.inB x && Sv.known L3 x) = true) := by
          intro x hx
          rcases List.mem_append.1 hx with hx | hx
          · exact HT3.out x hx
          · simp at hx; subst hx; exact E.out
        clear hoi4 hb4 hv3 hbel3 hcell3 hsz3
        generalize T ++ [z] = T4 at *
        go_wp2_with fail
        go_roundw
        case rel => exact ⟨k + 1, T4, L3, a', c', by omega, by omega, by go_num, by rw [HL4.out], HT4.out, by rw [HL4.out]; omega, hv4, HOI4.out, hsz4, hbel4⟩
        case measure => simp [intOf]; omega
      | false =>
        have E := Lib.hid hkn
        clear hkn
        go_wp2_with fail
        refine (has_b _ _ _ _ _ hv3 E.out).mono ?_
        rintro e w' ⟨rfl, rfl⟩
        go_wp2_with fail
        go_roundw
        case rel => exact ⟨k + 1, T, L3, a, c, by omega, by omega, by go_num, rfl, HT3.out, by omega, hv3, HOI3.out, hsz3, hbel3⟩
        case measure => simp [intOf]; omega
    · have HX : (k < len ∧ ¬ k < 100) ∨ ¬ k < len := by omega
      clear h1
      rcases HX with ⟨h3, h4⟩ | h3
      all_goals
        go_wp2_with fail
        go_loopw [8, 9] (fun i _ wr => ∃ (k2 : Nat) (L : List Int), k2 ≤ 100 ∧ k2 ≤ len2 ∧ i = .int .i64 k2 ∧ (∀ x ∈ T, (Sv.inB x && Sv.known L x) = true) ∧ SV wr w1.heap.size L ∧ OI wr (w1.heap.size + 1) (.slice a T.length c) T ∧ w1.heap.size + 1 ≤ wr.heap.size ∧ Below w.heap.size w wr) (fun i _ _ => len2 - (intOf i).toNat)
        case atStart => exact ⟨0, L, by omega, by omega, rfl, HT.out, hsv, HOI.out, hsz, hbel⟩
        case round =>
          clear hsv hsz hbel HOI HT
          obtain ⟨k2, L', hk2, hkl2, rfl, hT', hsv', hoi', hsz', hbel'⟩ := hrel
          have HT := Lib.hid hT'
          have HOI := Lib.hid hoi'
          clear hT' hoi'
          by_cases h1 : k2 < len2 ∧ k2 < 100
          · obtain ⟨h1, h2⟩ := h1
            obtain ⟨b, off, rfl, hcell⟩ := HR2.out.below hbel' h1
            generalize ys.getD k2 0 = z at hcell
            go_wp2_with fail
            refine (put_any _ _ _ _ hsv').mono ?_
            rintro e w3 ⟨rfl, ho, hv3⟩
            have hbel3 := hbel'.trans (ho.below hs)
            have HOI3 := Lib.hid (HOI.out.kept ho (by omega))
            have HS3 := Lib.hid ho.size
            have hsz3 : w1.heap.size + 1 ≤ w3.heap.size := by rw [HS3.out]; exact hsz'
            generalize hL3 : Sv.putL L' z = L3 at hv3
            have HT3 : Hid (∀ x ∈ T, (Sv.inB x && Sv.known L3 x) = true) := fun x hx => by rw [← hL3]; exact known_put (HT.out x hx)
            clear hL3 hcell hsv' hbel' ho hsz' HOI HT
            go_wp2_with fail
            obtain ⟨wo, rfl⟩ : ∃ wo : World, wo = w3 := ⟨_, rfl⟩
            go_loop [9] (fun q => ∃ j : Nat, j ≤ T.length ∧ q = .int .i64 j) (fun q => T.length - (intOf q).toNat)
            case atStart => exact ⟨0, Nat.zero_le _, rfl⟩
            case round =>
              obtain ⟨j, hj, rfl⟩ := hrel
              by_cases hlt2 : j < T.length
              · obtain ⟨g, rfl, hcell⟩ := HOI3.out.at hlt2
                have E := Lib.hid (HT3.out (T.getD j 0) (by simp [List.getD, hlt2]))
                generalize T.getD j 0 = tj at hcell E
                go_wp2_with fail
                refine (has_b _ _ _ _ _ hv3 E.out).mono ?_
                rintro e w' ⟨rfl, rfl⟩
                go_wp2_with fail
                go_round
                case rel => exact ⟨j + 1, by omega, by go_num⟩
                case measure => simp [intOf]; omega
              · go_wp2_with fail
                go_roundw
                case rel => exact ⟨k2 + 1, L3, by omega, by omega, by go_num, HT3.out, hv3, HOI3.out, hsz3, hbel3⟩
                case measure => simp [intOf]; omega
          · have HX : (k2 < len2 ∧ ¬ k2 < 100) ∨ ¬ k2 < len2 := by omega
            clear h1
            rcases HX with ⟨h5, h6⟩ | h5
            all_goals
              go_wp2_with fail
              go_ret
              exact ⟨rfl, hbel'⟩
end Go.Proofs.Ytobcefgangkilaa

namespace Go.Proofs.Ytobcefgangkilaa.sieveStays
open Go.ChangeShapes Go.WideShapes Go.ChangeAt Go.RowKit
open Go.ChangeMaps (open_string shut_string)
set_option linter.unusedVariables false

theorem own : ownKnob Try.prog.godebug = none := by kernel_rfl
theorem laidOut : laidOutB Try.prog = true := by kernel_rfl

/-- WHAT THE WALK IS TOLD OF A SLICE OF INTEGERS THAT CAME IN: it is nil; or it leads to a row of 'cap' cells, the numbers 'zs' (the first 'len' are its elements, the rest its spare room), each fitting its kind. -/
def IsRow (k : IntKind) (w : World) (a : Option Addr) (len cap : Nat) (zs : List Int) : Prop :=
  (a = none ∧ len = 0 ∧ cap = 0 ∧ zs = []) ∨
  ∃ x, a = some x ∧ len ≤ cap ∧ cap ≤ maxLen ∧ zs.length = cap ∧ (∀ i, i < zs.length → w.cell? (x.add i) = some (.int k (zs.getD i 0))) ∧ ∀ n ∈ zs, (Lit.int k n).wf = true

/-! ### STEP 1: THE WALK: the Go text returns true, AND WRITES NOTHING THAT WAS THERE: 'Below w.heap.size w w'' (Derived/Below.lean: '.refl', '.alloc', '.drew', '.setCell' at a new block, '.trans'). Open each 'IsRow' by 'rcases' AHEAD of 'go_enter'; part every test ahead of the walk. -/
theorem walk (a0 : Option Addr) (len0 cap0 : Nat) (z0 : List Int) (a1 : Option Addr) (len1 cap1 : Nat) (z1 : List Int) (w : World) (w0 : IsRow .i64 w a0 len0 cap0 z0) (w1 : IsRow .i64 w a1 len1 cap1 z1) :
    Calls Try.prog 8 #[.slice a0 len0 cap0, .slice a1 len1 cap1] w fun e w' => e = .returned (.bool true) ∧ Below w.heap.size w w' := by
  have r0 : Row w a0 len0 z0 := Row.of (cap := cap0) (by rcases w0 with h | ⟨x, rfl, hl, hm, hz, hc, hwf⟩; exact .inl h; exact .inr ⟨x, rfl, hl, hz, hc⟩)
  have r1 : Row w a1 len1 z1 := Row.of (cap := cap1) (by rcases w1 with h | ⟨x, rfl, hl, hm, hz, hc, hwf⟩; exact .inl h; exact .inr ⟨x, rfl, hl, hz, hc⟩)
  exact stays_walk a0 a1 len0 cap0 len1 cap1 z0 z1 w r0 r1

/-! ### THE ROW's STEP: WRITTEN OUT: LEAVE IT -/
set_option maxRecDepth 100000 in
theorem lifted (os : Os) (started : os.Started) (H : Type) (enc : TypeId × Value → H) :
    ReturnsInHanded {} Try.checked os 8 .any (Rows.sieveStaysSpec.pre6 enc Try.prog Try.f8 Rows.sieveStaysRow.domain false) (Rows.sieveStaysSpec.post enc Try.prog Try.f8 false true false false) := by
  refine returnsInHanded_of_change (C := Try.checked) own started (by kernel_rfl) Try.func8
    (ChangeSpec.witness6 (enc := enc) (C := Try.checked) false ⟨#[], #[.slice none 0 0, .slice none 0 0], []⟩ 8 (by kernel_rfl) (by kernel_rfl) (by kernel_rfl) (by kernel_rfl)) ?_
  intro W base args ds gs before hval0 hW hcnd _
  have hval : ∀ (j : Nat) t v, Try.f8.params[j]? = some t → args[j]? = some v → Value.okWide Try.prog W .any base t v := hval0
  have hW' := hW
  obtain ⟨p, q, hA0, hV, rfl, hfz, hnd⟩ := hW
  have hA : DataW.TrodAll enc Try.prog W 0 (fun _ => true) true Try.f8.params.toList args.toList ds p := hA0
  rw [Try.params8] at hA hval
  obtain ⟨v0, vs0, d0, ds0, p0, q0, hargs, rfl, rfl, h0, r0⟩ := trodAll_cons hA
  obtain ⟨v1, vs1, d1, ds1, p1, q1, rfl, rfl, rfl, h1, r1⟩ := trodAll_cons r0
  obtain ⟨rfl, rfl, rfl⟩ := trodAll_nil r1
  obtain rfl : args = #[v0, v1] := by cases args; simp_all
  obtain ⟨rfl, rfl⟩ := trodVars_none hV
  obtain ⟨a0, len0, cap0, rfl⟩ := okWide_slice Try.underlying22 (hval 0 22 v0 rfl rfl)
  have k0 := h0
  have lt0 : ∀ x ∈ p0, x.block < W.heap.size := by obtain ⟨m, hm⟩ := k0; exact DataW.trod_lt m _ _ _ hm
  obtain ⟨z0, w0⟩ : ∃ zs, IsRow .i64 W a0 len0 cap0 zs := by
    obtain ⟨fuel, hf⟩ := h0
    rcases open_ints Try.underlying22 Try.underlying3 (by kernel_rfl) hf with ⟨hcs, _⟩ | ⟨x, l, c, zs, hcs, _, hl, hm, hz, _, hcell, hwz⟩
    · simp [Value.cells] at hcs
      obtain ⟨rfl, rfl, rfl⟩ := hcs
      exact ⟨[], .inl ⟨rfl, rfl, rfl, rfl⟩⟩
    · simp [Value.cells] at hcs
      obtain ⟨rfl, rfl, rfl⟩ := hcs
      exact ⟨zs, .inr ⟨_, rfl, hl, hm, by simpa using hz, hcell, hwz⟩⟩
  obtain ⟨a1, len1, cap1, rfl⟩ := okWide_slice Try.underlying22 (hval 1 22 v1 rfl rfl)
  have k1 := h1
  have lt1 : ∀ x ∈ p1, x.block < W.heap.size := by obtain ⟨m, hm⟩ := k1; exact DataW.trod_lt m _ _ _ hm
  obtain ⟨z1, w1⟩ : ∃ zs, IsRow .i64 W a1 len1 cap1 zs := by
    obtain ⟨fuel, hf⟩ := h1
    rcases open_ints Try.underlying22 Try.underlying3 (by kernel_rfl) hf with ⟨hcs, _⟩ | ⟨x, l, c, zs, hcs, _, hl, hm, hz, _, hcell, hwz⟩
    · simp [Value.cells] at hcs
      obtain ⟨rfl, rfl, rfl⟩ := hcs
      exact ⟨[], .inl ⟨rfl, rfl, rfl, rfl⟩⟩
    · simp [Value.cells] at hcs
      obtain ⟨rfl, rfl, rfl⟩ := hcs
      exact ⟨zs, .inr ⟨_, rfl, hl, hm, by simpa using hz, hcell, hwz⟩⟩
  clear hA0 hval0
  refine (walk a0 len0 cap0 z0 a1 len1 cap1 z1 W w0 w1).mono fun e W' ⟨he, bel⟩ => ?_
  subst he
  exact ⟨_, rfl, _, _, _, [], _, [], hW', trodAll_mk1 (shut_bool Try.underlying4 _), (trodAll_cons_mk (Below.trod laidOut (by kernel_rfl) (of_decide_eq_true (by kernel_rfl)) k0 bel lt0) (trodAll_cons_mk (Below.trod laidOut (by kernel_rfl) (of_decide_eq_true (by kernel_rfl)) k1 bel lt1) trodAll_mk0)), rfl, bel.frame _, fun h => by cases h⟩

theorem over : Rows.sieveStaysRow.holds Try.pinned (OpenSpec.ofChange Rows.sieveStaysSpec) :=
  OpenClaim.holds_of_wide 8 Try.f8 rfl rfl rfl rfl rfl rfl rfl ⟨rfl, rfl, rfl, rfl, rfl⟩ rfl rfl rfl rfl rfl (by kernel_rfl) Try.func8 (by kernel_rfl)
    (of_decide_eq_true (by kernel_rfl)) (by unfold Func.isWrapper; first | (rw [if_pos (by decide +kernel)]; kernel_rfl) | (rw [if_neg (by decide +kernel)]; exact ⟨rfl, rfl⟩))
    (fun os started H enc _ => lifted os started H enc)

/-- ████ THE STATEMENT ████ -/
theorem proved : Rows.SieveStaysSaid := over
#print axioms proved
end Go.Proofs.Ytobcefgangkilaa.sieveStays
