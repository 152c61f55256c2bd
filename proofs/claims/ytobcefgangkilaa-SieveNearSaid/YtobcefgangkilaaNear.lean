/- A proof that in a sieve, within the last 64, a number is new just if it did not come: Rows.SieveNearSaid, for every number and every list of integers; no condition beyond the row's own. -/
import Derived.Below
import Derived.ChangeOld
import Derived.Deep.RegionHeld3
import Derived.Deep.RegionWith
import Derived.LoopN
import Derived.LoopTactic
import Derived.OpenShut
import Derived.OwnWalk
import Derived.ProofKit
import Derived.ShutString
import Derived.Test.YtobcefgangkilaaB
import Derived.Test.YtobcefgangkilaaRows
import Derived.WalkKit
namespace Go.Proofs.Ytobcefgangkilaa
open Go.RowKit

theorem in_of {n : Int} (h0 : 0 ≤ n) (h1 : n ≤ 9007199254740991) : Sv.inB n = true := by simp [Sv.inB, h0, h1]
theorem has_b (n : Int) (b : Nat) (L : List Int) (w : World) (x : Bool) (hs : SV w b L) (h : (Sv.inB n && Sv.known L n) = x) :
    Calls Try.prog 15 #[.pointer (some ⟨b, 0, none⟩), .int .i64 n] w fun e w' => e = .returned (.bool x) ∧ w = w' := by
  subst h; exact has_any n b L w hs
theorem fresh_b (n : Int) (b : Nat) (L : List Int) (w : World) (x : Bool) (hs : SV w b L) (h : (Sv.inB n && Sv.freshB L n) = x) :
    Calls Try.prog 19 #[.pointer (some ⟨b, 0, none⟩), .int .i64 n] w fun e w' => e = .returned (.bool x) ∧ Only b w w' ∧ SV w' b (Sv.putL L n) := by
  subst h; exact fresh_any n b L w hs
theorem Only.cell {b : Nat} {w w' : World} (h : Only b w w') {c o : Nat} (hc : c ≠ b) : w'.cell? ⟨c, o, none⟩ = w.cell? ⟨c, o, none⟩ := World.cell?_of_block (w := w) (h.block c hc)
theorem Only.froz {b : Nat} {w w' : World} (h : Only b w w') {c o : Nat} (hc : c ≠ b) : w'.frozen? ⟨c, o, none⟩ = w.frozen? ⟨c, o, none⟩ := World.frozen?_of_block (w := w) (h.block c hc)

/-- Within 64 numbers: known just if it came. -/
theorem known_near {L : List Int} {f y : Int} (h : ∀ l ∈ L, f ≤ l ∧ l < f + 64) (h0 : 0 ≤ y) : Sv.known L (f + y) = decide (f + y ∈ L) := by
  rw [Bool.eq_iff_iff, Sv.known_iff, decide_eq_true_eq]
  constructor
  · rintro ⟨l, hl, h1 | h1⟩
    · rw [← h1]; exact hl
    · have := h l hl; omega
  · exact fun hl => ⟨_, hl, .inl rfl⟩

/-- The 64 marks in block c tell which numbers came. -/
def Came (w : World) (c : Nat) (f : Int) (L : List Int) : Prop := ∀ j : Nat, j < 64 → w.cell? ⟨c, j, none⟩ = some (.bool (decide (f + (j : Int) ∈ L))) ∧ w.frozen? ⟨c, j, none⟩ = false

theorem came_start (w : World) (f : Int) (cur : Array Value) (h : cur = Array.replicate 64 (.bool false)) : Came (w.alloc (.cells cur 36)) w.heap.size f [] := by
  subst h
  intro j hj
  have hh : (w.alloc (.cells (Array.replicate 64 (.bool false)) 36)).heap[w.heap.size]? = some (.cells (Array.replicate 64 (.bool false)) 36 (0, 0)) := by
    show (w.heap.push _)[w.heap.size]? = _
    simp
  refine ⟨?_, ?_⟩
  · simp only [World.cell?, hh]; simp [hj]
  · simp only [World.frozen?, hh]; simp

theorem Came.only {w w' : World} {b c : Nat} {f : Int} {L : List Int} (h : Came w c f L) (ho : Only b w w') (hc : c ≠ b) : Came w' c f L :=
  fun j hj => ⟨(ho.cell hc).trans (h j hj).1, (ho.froz hc).trans (h j hj).2⟩

theorem Came.set {w : World} {c : Nat} {f : Int} {L : List Int} (h : Came w c f L) (k : Nat) (hk : k < 64) : Came (w.setCell ⟨c, k, none⟩ (.bool true)) c f ((f + (k : Int)) :: L) := by
  intro j hj
  refine ⟨?_, ?_⟩
  · by_cases e : j = k
    · subst e
      rw [World.cell?_setCell_same _ _ _ (h j hj).1]
      simp
    · rw [World.cell?_setCell_other _ _ _ _ (by intro h'; injection h' with _ h'; exact e h'.symm), (h j hj).1]
      have : ¬ (f + (j : Int) = f + (k : Int)) := by omega
      simp [this]
  · exact (World.frozen?_setCell _ _ _ _).trans (h j hj).2

theorem SV.set {w : World} {b c : Nat} {L : List Int} (h : SV w b L) (hc : b ≠ c) (k : Nat) (v : Value) : SV (w.setCell ⟨c, k, none⟩ v) b L :=
  h.of_block (Below.heap_setCell _ _ _ _ hc)

set_option maxRecDepth 100000 in
theorem near_full (from_ : Int) (b off len cap : Nat) (zs : List Int) (w : World) (hc : ∀ j, j < len → w.cell? ⟨b, off + j, none⟩ = some (.int .i64 (zs.getD j 0))) (hlt : b < w.heap.size) :
    Calls Try.prog 5 #[.int .i64 from_, .slice (some ⟨b, off, none⟩) len cap] w fun e w' => e = .returned (.bool true) ∧ Below w.heap.size w w' := by
  go_enter Try.func5, Try.ntmps5
  go_wp2_with fail
  refine (works_any _).mono ?_
  rintro e w1 ⟨rfl, hb⟩
  have hr := brg_range from_ 9007199254740928 (by omega)
  go_wp2_with fail
  refine (bring_any _ _ _ (by omega) (by omega)).mono ?_
  rintro e w' ⟨rfl, rfl⟩
  generalize brg from_ 9007199254740928 = f at *
  go_wp2_with fail
  refine (new_any _).mono ?_
  rintro e w2 ⟨rfl, hb2, hz, hv⟩
  have HZ := Lib.hid hz
  clear hz
  have hs := hb.size
  have hb3 := hb.trans (hb2.mono hs)
  have HC := Lib.hid hc
  clear hc
  go_wp2_with fail
  have hst := came_start w2 f _ (show _ = Array.replicate 64 (Value.bool false) from rfl)
  have hsv0 : SV (w2.alloc (.cells (Array.replicate 64 (.bool false)) 36)) w1.heap.size [] := hv.of_block (Below.heap_alloc _ _ _ (by rw [HZ.out]; omega))
  have hbe0 : Below w.heap.size w (w2.alloc (.cells (Array.replicate 64 (.bool false)) 36)) := hb3.alloc hb3.size _
  have HST := Lib.hid hst
  clear hst
  go_loopw [7, 8] (fun i _ wr => ∃ (k : Nat) (L : List Int), k ≤ 300 ∧ k ≤ len ∧ i = .int .i64 k ∧ (∀ l ∈ L, f ≤ l ∧ l < f + 64) ∧ SV wr w1.heap.size L ∧ Came wr w2.heap.size f L ∧ Below w.heap.size w wr) (fun i _ _ => len - (intOf i).toNat)
  case atStart => exact ⟨0, [], by omega, by omega, rfl, by simp, hsv0, HST.out, hbe0⟩
  case round =>
    obtain ⟨k, L, hk, hkl, rfl, hL, hsv, hcm, hbel⟩ := hrel
    have HL := Lib.hid hL
    have HCM := Lib.hid hcm
    clear hL hsv0 hbe0 HST hcm
    by_cases h1 : k < len
    · by_cases h2 : k < 300
      · have hcell : wr.cell? ⟨b, off + k, none⟩ = some (.int .i64 (zs.getD k 0)) := (hbel.cell (p := ⟨b, off + k, none⟩) hlt).trans (HC.out k h1)
        generalize zs.getD k 0 = z at hcell
        have hry := brg_range z 64 (by omega)
        go_wp2_with fail
        refine (bring_any _ _ _ (by omega) (by omega)).mono ?_
        rintro e w' ⟨rfl, rfl⟩
        generalize brg z 64 = y at *
        obtain ⟨n, rfl⟩ := Int.eq_ofNat_of_zero_le hry.1
        obtain ⟨hy0, hy1⟩ := hry
        have hn : n < 64 := by omega
        have hkn := known_near HL.out hy0
        have hin := in_of (n := f + (n : Int)) (by omega) (by omega)
        have hcell2 := (HCM.out n hn).1
        have HP := Lib.hid (show Sv.putL L (f + (n : Int)) = (f + (n : Int)) :: L by simp [Sv.putL, hin])
        have HE := Lib.hid (show (Sv.inB (f + (n : Int)) && Sv.known L (f + (n : Int))) = decide (f + (n : Int) ∈ L) by simp [hin, hkn])
        have HF := Lib.hid (show (Sv.inB (f + (n : Int)) && Sv.freshB L (f + (n : Int))) = !decide (f + (n : Int) ∈ L) by simp [hin, hkn, Sv.freshB])
        clear hkn hin hcell
        generalize decide (f + (n : Int) ∈ L) = x at *
        have hne : w2.heap.size ≠ w1.heap.size := by rw [HZ.out]; omega
        have HNE := Lib.hid hne
        clear hne
        have e1 : IntKind.i64.wrap (f + (n : Int)) = f + (n : Int) := by simp [IntKind.wrap, IntKind.bits, IntKind.signed]; omega
        cases x
        · go_wp2_with fail
          go_region_held3 (fun w' => w'.cell? ⟨w2.heap.size, n, none⟩ = some (.bool false))
            (first | go_keep | exact hcell2 | exact hq)
            (first | (go_at_call 15; refine (has_b _ _ L _ _ (by exact hsv.of_block rfl) HE.out).mono ?_; rintro e w' ⟨rfl, rfl⟩) | (go_at_call 19; refine (fresh_b _ _ L _ _ (by exact hsv.of_block rfl) HF.out).mono ?_; rintro e w3 ⟨rfl, ho, hv3⟩; have hq := (ho.cell (c := w2.heap.size) (o := n) HNE.out).trans hcell2))
          have hf3 : w3.frozen? ⟨w2.heap.size, n, none⟩ = false := (ho.froz HNE.out).trans (HCM.out n hn).2
          have HCM3 := Lib.hid (HCM.out.only (w' := w3) ⟨ho.os, ho.tape, ho.output, ho.size, ho.block⟩ HNE.out)
          have hbel3 : Below w.heap.size w w3 := (hbel.drew).trans (ho.below hs)
          rw [HP.out] at hv3
          clear ho hbel hcell2
          go_wp2_with fail
          go_roundw
          case rel =>
            refine ⟨k + 1, (f + (n : Int)) :: L, by omega, by omega, by go_num, ?_, hv3.set (Ne.symm HNE.out) n _, HCM3.out.set n hn, hbel3.setCell (by have := HZ.out; simp; omega) _⟩
            intro l hl
            rcases List.mem_cons.1 hl with rfl | hl
            · omega
            · exact HL.out l hl
          case measure => simp [intOf]; omega
        · go_wp2_with fail
          go_region_held3 (fun w' => w'.cell? ⟨w2.heap.size, n, none⟩ = some (.bool true))
            (first | go_keep | exact hcell2 | exact hq)
            (first | (go_at_call 15; refine (has_b _ _ L _ _ (by exact hsv.of_block rfl) HE.out).mono ?_; rintro e w' ⟨rfl, rfl⟩) | (go_at_call 19; refine (fresh_b _ _ L _ _ (by exact hsv.of_block rfl) HF.out).mono ?_; rintro e w3 ⟨rfl, ho, hv3⟩; have hq := (ho.cell (c := w2.heap.size) (o := n) HNE.out).trans hcell2))
          have hf3 : w3.frozen? ⟨w2.heap.size, n, none⟩ = false := (ho.froz HNE.out).trans (HCM.out n hn).2
          have HCM3 := Lib.hid (HCM.out.only (w' := w3) ⟨ho.os, ho.tape, ho.output, ho.size, ho.block⟩ HNE.out)
          have hbel3 : Below w.heap.size w w3 := (hbel.drew).trans (ho.below hs)
          rw [HP.out] at hv3
          clear ho hbel hcell2
          go_wp2_with fail
          go_roundw
          case rel =>
            refine ⟨k + 1, (f + (n : Int)) :: L, by omega, by omega, by go_num, ?_, hv3.set (Ne.symm HNE.out) n _, HCM3.out.set n hn, hbel3.setCell (by have := HZ.out; simp; omega) _⟩
            intro l hl
            rcases List.mem_cons.1 hl with rfl | hl
            · omega
            · exact HL.out l hl
          case measure => simp [intOf]; omega
      · go_wp2_with fail
        go_ret
        exact ⟨rfl, hbel⟩
    · go_wp2_with fail
      go_ret
      exact ⟨rfl, hbel⟩

theorem near_empty (from_ : Int) (a : Option Addr) (cap : Nat) (w : World) :
    Calls Try.prog 5 #[.int .i64 from_, .slice a 0 cap] w fun e w' => e = .returned (.bool true) ∧ Below w.heap.size w w' := by
  go_enter Try.func5, Try.ntmps5
  go_wp2_with fail
  refine (works_any _).mono ?_
  rintro e w1 ⟨rfl, hb⟩
  have hr := brg_range from_ 9007199254740928 (by omega)
  go_wp2_with fail
  refine (bring_any _ _ _ (by omega) (by omega)).mono ?_
  rintro e w' ⟨rfl, rfl⟩
  generalize brg from_ 9007199254740928 = f at *
  go_wp2_with fail
  refine (new_any _).mono ?_
  rintro e w2 ⟨rfl, hb2, hz, hv⟩
  have HZ := Lib.hid hz
  clear hz
  have hs := hb.size
  have hb3 := hb.trans (hb2.mono hs)
  go_wp2_with fail
  have hbe0 : Below w.heap.size w (w2.alloc (.cells (Array.replicate 64 (Value.bool false)) 36)) := hb3.alloc hb3.size _
  have HB := Lib.hid hbe0
  clear hbe0
  go_loopw [7, 8] (fun i _ wr => i = .int .i64 0 ∧ Below w.heap.size w wr) (fun _ _ _ => 0)
  case atStart => exact ⟨rfl, HB.out⟩
  case round =>
    obtain ⟨rfl, hbel⟩ := hrel
    go_wp2_with fail
    go_ret
    exact ⟨rfl, hbel⟩
end Go.Proofs.Ytobcefgangkilaa

namespace Go.Proofs.Ytobcefgangkilaa.sieveNear
open Go.ChangeShapes Go.WideShapes Go.ChangeAt Go.RowKit
open Go.ChangeMaps (open_string shut_string)
set_option linter.unusedVariables false

theorem own : ownKnob Try.prog.godebug = none := by kernel_rfl
theorem laidOut : laidOutB Try.prog = true := by kernel_rfl

/-- WHAT THE WALK IS TOLD OF A SLICE OF INTEGERS THAT CAME IN: it is nil; or it leads to a row of 'cap' cells, the numbers 'zs' (the first 'len' are its elements, the rest its spare room), each fitting its kind. -/
def IsRow (k : IntKind) (w : World) (a : Option Addr) (len cap : Nat) (zs : List Int) : Prop :=
  (a = none ∧ len = 0 ∧ cap = 0 ∧ zs = []) ∨
  ∃ x, a = some x ∧ len ≤ cap ∧ cap ≤ maxLen ∧ zs.length = cap ∧ (∀ i, i < zs.length → w.cell? (x.add i) = some (.int k (zs.getD i 0))) ∧ ∀ n ∈ zs, (Lit.int k n).wf = true

/-! ### STEP 1: THE WALK: the Go text returns true, AND WRITES NOTHING THAT WAS THERE: 'Below w.heap.size w w'' (Derived/Below.lean: '.refl', '.alloc', '.drew', '.setCell' at a new block, '.trans'). Open each 'IsRow' by 'rcases' AHEAD of 'go_enter'; part every test ahead of the walk. -/
theorem walk (a0 : Int) (a1 : Option Addr) (len1 cap1 : Nat) (z1 : List Int) (w : World) (w0 : (Lit.int .i64 a0).wf = true) (w1 : IsRow .i64 w a1 len1 cap1 z1) :
    Calls Try.prog 5 #[.int .i64 a0, .slice a1 len1 cap1] w fun e w' => e = .returned (.bool true) ∧ Below w.heap.size w w' := by
  rcases w1 with ⟨rfl, rfl, rfl, rfl⟩ | ⟨x, rfl, hl, hm, hz, hc, hwf⟩
  · exact near_empty _ _ _ _
  · by_cases hp : 0 < len1
    · obtain ⟨b, off, rfl, hc2⟩ := ints_at hc (by omega)
      have hlt : b < w.heap.size := World.block_lt_of_cell? w _ (hc2 0 (by omega))
      exact near_full a0 b off len1 cap1 z1 w (fun j hj => hc2 j (by omega)) hlt
    · obtain rfl : len1 = 0 := by omega
      exact near_empty _ _ _ _

/-! ### THE ROW's STEP: WRITTEN OUT: LEAVE IT -/
set_option maxRecDepth 100000 in
theorem lifted (os : Os) (started : os.Started) (H : Type) (enc : TypeId × Value → H) :
    ReturnsInHanded {} Try.checked os 5 .any (Rows.sieveNearSpec.pre6 enc Try.prog Try.f5 Rows.sieveNearRow.domain false) (Rows.sieveNearSpec.post enc Try.prog Try.f5 false true false false) := by
  refine returnsInHanded_of_change (C := Try.checked) own started (by kernel_rfl) Try.func5
    (ChangeSpec.witness6 (enc := enc) (C := Try.checked) false ⟨#[], #[.int .i64 0, .slice none 0 0], []⟩ 8 (by kernel_rfl) (by kernel_rfl) (by kernel_rfl) (by kernel_rfl)) ?_
  intro W base args ds gs before hval0 hW hcnd _
  have hval : ∀ (j : Nat) t v, Try.f5.params[j]? = some t → args[j]? = some v → Value.okWide Try.prog W .any base t v := hval0
  have hW' := hW
  obtain ⟨p, q, hA0, hV, rfl, hfz, hnd⟩ := hW
  have hA : DataW.TrodAll enc Try.prog W 0 (fun _ => true) true Try.f5.params.toList args.toList ds p := hA0
  rw [Try.params5] at hA hval
  obtain ⟨v0, vs0, d0, ds0, p0, q0, hargs, rfl, rfl, h0, r0⟩ := trodAll_cons hA
  obtain ⟨v1, vs1, d1, ds1, p1, q1, rfl, rfl, rfl, h1, r1⟩ := trodAll_cons r0
  obtain ⟨rfl, rfl, rfl⟩ := trodAll_nil r1
  obtain rfl : args = #[v0, v1] := by cases args; simp_all
  obtain ⟨rfl, rfl⟩ := trodVars_none hV
  obtain ⟨a0, rfl, rfl, rfl, w0⟩ := open_int Try.underlying3 (hval 0 3 v0 rfl rfl) h0
  obtain ⟨a1, len1, cap1, rfl⟩ := okWide_slice Try.underlying22 (hval 1 22 v1 rfl rfl)
  have k1 := h1
  have lt1 : ∀ x ∈ p1, x.block < W.heap.size := by obtain ⟨m, hm⟩ := k1; exact DataW.trod_lt m _ _ _ hm
  obtain ⟨z1, w1⟩ : ∃ zs, IsRow .i64 W a1 len1 cap1 zs := by
    obtain ⟨fuel, hf⟩ := h1
    rcases open_ints Try.underlying22 Try.underlying3 (by kernel_rfl) hf with ⟨hcs, _⟩ | ⟨x, l, c, zs, hcs, _, hl, hm, hz, _, hcell, hwz⟩
    · simp [Value.cells] at hcs
      obtain ⟨rfl, rfl, rfl⟩ := hcs
      exact ⟨[], .inl ⟨rfl, rfl, rfl, rfl⟩⟩
    · simp [Value.cells] at hcs
      obtain ⟨rfl, rfl, rfl⟩ := hcs
      exact ⟨zs, .inr ⟨_, rfl, hl, hm, by simpa using hz, hcell, hwz⟩⟩
  clear hA0 hval0
  refine (walk a0 a1 len1 cap1 z1 W w0 w1).mono fun e W' ⟨he, bel⟩ => ?_
  subst he
  exact ⟨_, rfl, _, _, _, [], _, [], hW', trodAll_mk1 (shut_bool Try.underlying4 _), (trodAll_cons_mk (shut_int Try.underlying3 w0) (trodAll_cons_mk (Below.trod laidOut (by kernel_rfl) (of_decide_eq_true (by kernel_rfl)) k1 bel lt1) trodAll_mk0)), rfl, bel.frame _, fun h => by cases h⟩

theorem over : Rows.sieveNearRow.holds Try.pinned (OpenSpec.ofChange Rows.sieveNearSpec) :=
  OpenClaim.holds_of_wide 5 Try.f5 rfl rfl rfl rfl rfl rfl rfl ⟨rfl, rfl, rfl, rfl, rfl⟩ rfl rfl rfl rfl rfl (by kernel_rfl) Try.func5 (by kernel_rfl)
    (of_decide_eq_true (by kernel_rfl)) (by unfold Func.isWrapper; first | (rw [if_pos (by decide +kernel)]; kernel_rfl) | (rw [if_neg (by decide +kernel)]; exact ⟨rfl, rfl⟩))
    (fun os started H enc _ => lifted os started H enc)

/-- ████ THE STATEMENT ████ -/
theorem proved : Rows.SieveNearSaid := over
#print axioms proved
end Go.Proofs.Ytobcefgangkilaa.sieveNear
