/- A proof that in a sieve what is not new changes nothing: Rows.SieveSameSaid, for every list of integers; no condition beyond the row's own. -/
import Derived.Below
import Derived.ChangeOld
import Derived.LoopN
import Derived.LoopTactic
import Derived.OpenShut
import Derived.ProofKit
import Derived.ShutString
import Derived.Test.YtobcefgangkilaaC
import Derived.Test.YtobcefgangkilaaRows
import Derived.WalkKit
namespace Go.Proofs.Ytobcefgangkilaa
open Go.RowKit

def Alike (L M : List Int) : Prop := ∀ x, Sv.known L x = Sv.known M x

theorem known_cons_eq (L : List Int) (n x : Int) : Sv.known (n :: L) x = ((n == x || decide (64 ≤ n - x)) || Sv.known L x) := by simp [Sv.known]

theorem Alike.put {L M : List Int} (h : Alike L M) (n : Int) : Alike (Sv.putL L n) (Sv.putL (Sv.putL M n) n) := by
  intro x
  unfold Sv.putL
  split
  · simp only [known_cons_eq, h x]
    cases (n == x || decide (64 ≤ n - x)) <;> simp
  · exact h x

theorem put_b (n : Int) (b : Nat) (L : List Int) (w : World) (x : Bool) (y : Int) (hs : SV w b L) (h : (Sv.inB n && Sv.freshB L n) = x) (h2 : errI n = y) :
    Calls Try.prog 13 #[.pointer (some ⟨b, 0, none⟩), .int .i64 n] w fun e w' => e = .returned (.tuple #[.bool x, .int .i64 y]) ∧ Only b w w' ∧ SV w' b (Sv.putL L n) := by
  subst h; subst h2; exact put_any n b L w hs

theorem twice (M : List Int) (n : Int) : (Sv.inB n && Sv.freshB (Sv.putL M n) n) = false := by
  unfold Sv.putL Sv.freshB
  cases h : Sv.inB n
  · simp
  · simp [Sv.known]

set_option maxRecDepth 100000 in
theorem same_walk (a0 : Option Addr) (len cap : Nat) (zs : List Int) (w : World) (hr : Row w a0 len zs) :
    Calls Try.prog 9 #[.slice a0 len cap] w fun e w' => e = .returned (.bool true) ∧ Below w.heap.size w w' := by
  have HR := Lib.hid hr
  clear hr
  go_enter Try.func9, Try.ntmps9
  go_wp2_with fail
  refine (works_any _).mono ?_
  rintro e w1 ⟨rfl, hb⟩
  go_wp2_with fail
  refine (new_any _).mono ?_
  rintro e w2 ⟨rfl, hb2, hz, hv⟩
  have HZ := Lib.hid hz
  clear hz
  have hs := hb.size
  have hb3 := hb.trans (hb2.mono hs)
  go_wp2_with fail
  refine (new_any _).mono ?_
  rintro e w3 ⟨rfl, hb4, hz, hv4⟩
  have HZ3 := Lib.hid hz
  clear hz
  have hv3 : SV w3 w1.heap.size [] := hv.of_block (hb4.block _ hv.lt)
  have hb5 := hb3.trans (hb4.mono hb3.size)
  have hs5 : w.heap.size ≤ w2.heap.size := hb3.size
  have hne : w1.heap.size ≠ w2.heap.size := by rw [HZ.out]; omega
  have HNE := Lib.hid hne
  clear hne hb hb2 hb3 hb4 hv
  go_wp2_with fail
  go_loopw [5, 6, 7, 8, 9, 10, 11] (fun i _ _ _ _ _ _ wr => ∃ (k : Nat) (L M : List Int), k ≤ 100 ∧ k ≤ len ∧ i = .int .i64 k ∧ Alike L M ∧ SV wr w1.heap.size L ∧ SV wr w2.heap.size M ∧ Below w.heap.size w wr) (fun i _ _ _ _ _ _ _ => len - (intOf i).toNat)
  case atStart => exact ⟨0, [], [], by omega, by omega, rfl, fun _ => rfl, hv3, hv4, hb5⟩
  case round =>
    clear hv3 hv4 hb5
    obtain ⟨k, L, M, hk, hkl, rfl, hA, hs1, hs2, hbel⟩ := hrel
    have HA := Lib.hid hA
    clear hA
    by_cases h1 : k < len ∧ k < 100
    · obtain ⟨h1, h2⟩ := h1
      obtain ⟨b, off, rfl, hcell⟩ := HR.out.below hbel h1
      obtain ⟨b', off', e', hblt, _⟩ := HR.out k h1
      simp only [Option.some.injEq, Addr.mk.injEq] at e'
      obtain ⟨rfl, rfl, _⟩ := e'
      generalize zs.getD k 0 = z at hcell
      have E1 : ∃ x, (Sv.inB z && Sv.freshB L z) = x := ⟨_, rfl⟩
      obtain ⟨x, hx⟩ := E1
      have hx2 : (Sv.inB z && Sv.freshB M z) = x := by rw [← hx]; unfold Sv.freshB; rw [HA.out z]
      have hx3 := twice M z
      obtain ⟨y, hy⟩ : ∃ y, errI z = y := ⟨_, rfl⟩
      have HX := Lib.hid hx
      have HX2 := Lib.hid hx2
      have HX3 := Lib.hid hx3
      have HY := Lib.hid hy
      clear hx hx2 hx3 hy
      cases x
      all_goals
        go_wp2_with fail
        refine (put_b _ _ _ _ _ _ hs1 HX.out HY.out).mono ?_
        rintro e w4 ⟨rfl, ho, hs3⟩
        have hbel2 := hbel.trans (ho.below hs)
        have hs4 := hs2.of_block (ho.block _ (Ne.symm HNE.out))
        have hcell2 : w4.cell? ⟨b, off + k, none⟩ = some (.int .i64 z) := (World.cell?_of_block (w := wr) (a := ⟨b, off + k, none⟩) (ho.block b (by omega))).trans hcell
        clear hs1 hs2 hbel hcell ho
        go_wp2_with fail
        refine (put_b _ _ _ _ _ _ hs4 HX2.out HY.out).mono ?_
        rintro e w5 ⟨rfl, ho, hs6⟩
        have hbel3 := hbel2.trans (ho.below hs5)
        have hs7 := hs3.of_block (ho.block _ HNE.out)
        have hcell3 : w5.cell? ⟨b, off + k, none⟩ = some (.int .i64 z) := (World.cell?_of_block (w := w4) (a := ⟨b, off + k, none⟩) (ho.block b (by omega))).trans hcell2
        clear hs3 hs4 hbel2 hcell2 ho
        go_wp2_with fail
        refine (put_b _ _ _ _ _ _ hs6 HX3.out HY.out).mono ?_
        rintro e w6 ⟨rfl, ho, hs8⟩
        have hbel4 := hbel3.trans (ho.below hs5)
        have hs9 := hs7.of_block (ho.block _ HNE.out)
        clear hs6 hs7 hbel3 hcell3 ho
        go_wp2_with fail
        go_roundw
        case rel => exact ⟨k + 1, _, _, by omega, by omega, by go_num, HA.out.put z, hs9, hs8, hbel4⟩
        case measure => simp [intOf]; omega
    · have HX : (k < len ∧ ¬ k < 100) ∨ ¬ k < len := by omega
      clear h1
      rcases HX with ⟨h5, h6⟩ | h5
      all_goals
        go_wp2_with fail
        go_ret
        exact ⟨rfl, hbel⟩
end Go.Proofs.Ytobcefgangkilaa

namespace Go.Proofs.Ytobcefgangkilaa.sieveSame
open Go.ChangeShapes Go.WideShapes Go.ChangeAt Go.RowKit
open Go.ChangeMaps (open_string shut_string)
set_option linter.unusedVariables false

theorem own : ownKnob Try.prog.godebug = none := by kernel_rfl
theorem laidOut : laidOutB Try.prog = true := by kernel_rfl

/-- WHAT THE WALK IS TOLD OF A SLICE OF INTEGERS THAT CAME IN: it is nil; or it leads to a row of 'cap' cells, the numbers 'zs' (the first 'len' are its elements, the rest its spare room), each fitting its kind. -/
def IsRow (k : IntKind) (w : World) (a : Option Addr) (len cap : Nat) (zs : List Int) : Prop :=
  (a = none ∧ len = 0 ∧ cap = 0 ∧ zs = []) ∨
  ∃ x, a = some x ∧ len ≤ cap ∧ cap ≤ maxLen ∧ zs.length = cap ∧ (∀ i, i < zs.length → w.cell? (x.add i) = some (.int k (zs.getD i 0))) ∧ ∀ n ∈ zs, (Lit.int k n).wf = true

/-! ### STEP 1: THE WALK: the Go text returns true, AND WRITES NOTHING THAT WAS THERE: 'Below w.heap.size w w'' (Derived/Below.lean: '.refl', '.alloc', '.drew', '.setCell' at a new block, '.trans'). Open each 'IsRow' by 'rcases' AHEAD of 'go_enter'; part every test ahead of the walk. -/
theorem walk (a0 : Option Addr) (len0 cap0 : Nat) (z0 : List Int) (w : World) (w0 : IsRow .i64 w a0 len0 cap0 z0) :
    Calls Try.prog 9 #[.slice a0 len0 cap0] w fun e w' => e = .returned (.bool true) ∧ Below w.heap.size w w' := by
  have r0 : Row w a0 len0 z0 := Row.of (cap := cap0) (by rcases w0 with h | ⟨x, rfl, hl, hm, hz, hc, hwf⟩; exact .inl h; exact .inr ⟨x, rfl, hl, hz, hc⟩)
  exact same_walk a0 len0 cap0 z0 w r0

/-! ### THE ROW's STEP: WRITTEN OUT: LEAVE IT -/
set_option maxRecDepth 100000 in
theorem lifted (os : Os) (started : os.Started) (H : Type) (enc : TypeId × Value → H) :
    ReturnsInHanded {} Try.checked os 9 .any (Rows.sieveSameSpec.pre6 enc Try.prog Try.f9 Rows.sieveSameRow.domain false) (Rows.sieveSameSpec.post enc Try.prog Try.f9 false true false false) := by
  refine returnsInHanded_of_change (C := Try.checked) own started (by kernel_rfl) Try.func9
    (ChangeSpec.witness6 (enc := enc) (C := Try.checked) false ⟨#[], #[.slice none 0 0], []⟩ 8 (by kernel_rfl) (by kernel_rfl) (by kernel_rfl) (by kernel_rfl)) ?_
  intro W base args ds gs before hval0 hW hcnd _
  have hval : ∀ (j : Nat) t v, Try.f9.params[j]? = some t → args[j]? = some v → Value.okWide Try.prog W .any base t v := hval0
  have hW' := hW
  obtain ⟨p, q, hA0, hV, rfl, hfz, hnd⟩ := hW
  have hA : DataW.TrodAll enc Try.prog W 0 (fun _ => true) true Try.f9.params.toList args.toList ds p := hA0
  rw [Try.params9] at hA hval
  obtain ⟨v0, vs0, d0, ds0, p0, q0, hargs, rfl, rfl, h0, r0⟩ := trodAll_cons hA
  obtain ⟨rfl, rfl, rfl⟩ := trodAll_nil r0
  obtain rfl : args = #[v0] := by cases args; simp_all
  obtain ⟨rfl, rfl⟩ := trodVars_none hV
  obtain ⟨a0, len0, cap0, rfl⟩ := okWide_slice Try.underlying22 (hval 0 22 v0 rfl rfl)
  have k0 := h0
  have lt0 : ∀ x ∈ p0, x.block < W.heap.size := by obtain ⟨m, hm⟩ := k0; exact DataW.trod_lt m _ _ _ hm
  obtain ⟨z0, w0⟩ : ∃ zs, IsRow .i64 W a0 len0 cap0 zs := by
    obtain ⟨fuel, hf⟩ := h0
    rcases open_ints Try.underlying22 Try.underlying3 (by kernel_rfl) hf with ⟨hcs, _⟩ | ⟨x, l, c, zs, hcs, _, hl, hm, hz, _, hcell, hwz⟩
    · simp [Value.cells] at hcs
      obtain ⟨rfl, rfl, rfl⟩ := hcs
      exact ⟨[], .inl ⟨rfl, rfl, rfl, rfl⟩⟩
    · simp [Value.cells] at hcs
      obtain ⟨rfl, rfl, rfl⟩ := hcs
      exact ⟨zs, .inr ⟨_, rfl, hl, hm, by simpa using hz, hcell, hwz⟩⟩
  clear hA0 hval0
  refine (walk a0 len0 cap0 z0 W w0).mono fun e W' ⟨he, bel⟩ => ?_
  subst he
  exact ⟨_, rfl, _, _, _, [], _, [], hW', trodAll_mk1 (shut_bool Try.underlying4 _), (trodAll_cons_mk (Below.trod laidOut (by kernel_rfl) (of_decide_eq_true (by kernel_rfl)) k0 bel lt0) trodAll_mk0), rfl, bel.frame _, fun h => by cases h⟩

theorem over : Rows.sieveSameRow.holds Try.pinned (OpenSpec.ofChange Rows.sieveSameSpec) :=
  OpenClaim.holds_of_wide 9 Try.f9 rfl rfl rfl rfl rfl rfl rfl ⟨rfl, rfl, rfl, rfl, rfl⟩ rfl rfl rfl rfl rfl (by kernel_rfl) Try.func9 (by kernel_rfl)
    (of_decide_eq_true (by kernel_rfl)) (by unfold Func.isWrapper; first | (rw [if_pos (by decide +kernel)]; kernel_rfl) | (rw [if_neg (by decide +kernel)]; exact ⟨rfl, rfl⟩))
    (fun os started H enc _ => lifted os started H enc)

/-- ████ THE STATEMENT ████ -/
theorem proved : Rows.SieveSameSaid := over
#print axioms proved
end Go.Proofs.Ytobcefgangkilaa.sieveSame
