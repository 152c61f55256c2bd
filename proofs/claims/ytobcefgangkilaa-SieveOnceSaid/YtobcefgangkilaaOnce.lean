/- A proof that in a sieve each number is new once at most: Rows.SieveOnceSaid, for every list of integers; no condition beyond the row's own. -/
import Derived.Below
import Derived.ChangeOld
import Derived.LoopN
import Derived.LoopTactic
import Derived.OpenShut
import Derived.OwnWalk
import Derived.ProofKit
import Derived.ShutString
import Derived.Test.YtobcefgangkilaaB
import Derived.Test.YtobcefgangkilaaRows
import Derived.WalkKit
namespace Go.Proofs.Ytobcefgangkilaa
open Go.RowKit

theorem Only.grown {b : Nat} {w w' : World} (h : Only b w w') : w.grownBy w' (some b) :=
  ⟨h.os, h.tape, h.output, by rw [h.size]; exact Nat.le_refl _, fun k _ hk => h.block k (fun e => hk (by rw [e]))⟩

/-- A list of ints that the call owns. -/
def OI (w : World) (B : Nat) (v : Value) (xs : List Int) : Prop := w.ownsRow B 3 1 v xs.length (xs.map (Value.int .i64))

theorem OI.nil (w : World) (B : Nat) : OI w B (.slice none 0 0) [] := World.ownsRow_nil w B 3 1
theorem OI.kept {w w' : World} {b B : Nat} {v : Value} {xs : List Int} (h : OI w B v xs) (ho : Only b w w') (hb : b < B) : OI w' B v xs := by
  refine World.ownsRow.kept h ho.grown ?_
  cases hv : v.ownBlock with
  | none => exact .inl rfl
  | some k =>
    right
    intro e
    have h1 := (World.ownsRow.lt h k hv).1
    simp at e; omega

theorem Try.info3 : (Try.prog.info? 3).map (fun i => (i.zero, i.size, i.bytes)) = some (some (.int .i64 0), 1, 8) := by kernel_rfl

/-- What the numbers that were taken are, behind a new one. -/
theorem taken_new {T L : List Int} {y : Int} (h : ∀ t ∈ T, t ∈ L) (hk : Sv.known L y = false) : ∀ t ∈ T, t ≠ y := by
  intro t ht e
  subst e
  have := h t ht
  have h2 : Sv.known L t = true := (Sv.known_iff _ _).2 ⟨t, this, .inl rfl⟩
  rw [h2] at hk
  cases hk
theorem in_of {n : Int} (h0 : 0 ≤ n) (h1 : n ≤ 9007199254740991) : Sv.inB n = true := by simp [Sv.inB, h0, h1]

theorem fresh_no (n : Int) (b : Nat) (L : List Int) (w : World) (hs : SV w b L) (h : (Sv.inB n && Sv.freshB L n) = false) :
    Calls Try.prog 19 #[.pointer (some ⟨b, 0, none⟩), .int .i64 n] w fun e w' => e = .returned (.bool false) ∧ Only b w w' ∧ SV w' b (Sv.putL L n) := by
  have := fresh_any n b L w hs
  rw [h] at this
  exact this

set_option maxRecDepth 100000 in
theorem once_full (b off len cap : Nat) (zs : List Int) (w : World) (hc : ∀ j, j < len → w.cell? ⟨b, off + j, none⟩ = some (.int .i64 (zs.getD j 0))) (hlt : b < w.heap.size) :
    Calls Try.prog 4 #[.slice (some ⟨b, off, none⟩) len cap] w fun e w' => e = .returned (.bool true) ∧ Below w.heap.size w w' := by
  obtain ⟨i0, hi, hz0, hz1, hz2⟩ := info_parts Try.info3
  have HI := Lib.hid hi
  have HZ0 := Lib.hid hz0
  have HZ1 := Lib.hid hz1
  have HZ2 := Lib.hid hz2
  clear hi hz0 hz1 hz2
  go_enter Try.func4, Try.ntmps4
  go_wp2_with fail
  refine (works_any _).mono ?_
  rintro e w1 ⟨rfl, hb⟩
  go_wp2_with fail
  refine (new_any _).mono ?_
  rintro e w2 ⟨rfl, hb2, hz, hv⟩
  have HZ := Lib.hid hz
  clear hz
  have hs := hb.size
  have hb3 := hb.trans (hb2.mono hs)
  have HC := Lib.hid hc
  clear hc
  go_wp2_with fail
  go_loopw [4, 5, 6, 7] (fun t i _ _ wr => ∃ (k : Nat) (T L : List Int) (a : Option Addr) (c : Nat), k ≤ 300 ∧ k ≤ len ∧ i = .int .i64 k ∧ t = .slice a T.length c ∧ (∀ x ∈ T, x ∈ L) ∧ (0 < k → 0 < T.length) ∧ (k = 0 → L = []) ∧ T.length ≤ k ∧ SV wr w1.heap.size L ∧ OI wr (w1.heap.size + 1) (.slice a T.length c) T ∧ w1.heap.size + 1 ≤ wr.heap.size ∧ Below w.heap.size w wr) (fun _ i _ _ _ => len - (intOf i).toNat)
  case atStart => exact ⟨0, [], [], none, 0, by omega, by omega, rfl, rfl, by simp, by simp, by simp, by simp, hv, OI.nil _ _, by rw [HZ.out]; exact Nat.le_refl _, hb3⟩
  case round =>
    obtain ⟨k, T, L, a, c, hk, hkl, rfl, rfl, hTL, hT0, hL0, hTk, hsv, hoi, hsz, hbel⟩ := hrel
    have HTL := Lib.hid hTL
    have HT0 := Lib.hid hT0
    have HL0 := Lib.hid hL0
    clear hTL hT0 hL0
    by_cases h1 : k < len
    · by_cases h2 : k < 300
      · have hcell : wr.cell? ⟨b, off + k, none⟩ = some (.int .i64 (zs.getD k 0)) := (hbel.cell (p := ⟨b, off + k, none⟩) hlt).trans (HC.out k h1)
        generalize zs.getD k 0 = z at hcell
        have hr := brg_range z 9007199254740992 (by omega)
        go_wp2_with fail
        refine (bring_any _ _ _ (by omega) (by omega)).mono ?_
        rintro e w' ⟨rfl, rfl⟩
        generalize brg z 9007199254740992 = y at *
        have hin := in_of (n := y) (by omega) (by omega)
        have HP := Lib.hid (show Sv.putL L y = y :: L by simp [Sv.putL, hin])
        cases hkn : Sv.known L y with
        | true =>
          have E := Lib.hid (show (Sv.inB y && Sv.freshB L y) = false by simp [hkn, Sv.freshB])
          have HT1 : Hid (0 < T.length) := by
            by_cases hk0 : k = 0
            · have := HL0.out hk0
              subst this
              simp [Sv.known] at hkn
            · exact HT0.out (by omega)
          clear hkn hin
          go_wp2_with fail
          refine (fresh_no _ _ _ _ hsv E.out).mono ?_
          rintro e w3 ⟨rfl, ho, hv3⟩
          rw [HP.out] at hv3
          have hs3 := ho.size
          have HS3 := Lib.hid hs3
          clear hs3
          go_wp2_with fail
          go_roundw
          case rel => exact ⟨k + 1, T, y :: L, a, c, by omega, by omega, by go_num, rfl, fun x hx => by simp [HTL.out x hx], fun _ => HT1.out, by omega, by omega, hv3, hoi.kept ho (by omega), by rw [HS3.out]; exact hsz, hbel.trans (ho.below hs)⟩
          case measure => simp [intOf]; omega
        | false =>
          have E := Lib.hid (show (Sv.inB y && Sv.freshB L y) = true by simp [hkn, hin, Sv.freshB])
          have HNE := Lib.hid (taken_new HTL.out hkn)
          clear hkn hin
          go_wp2_with fail
          refine (fresh_yes _ _ _ _ hsv E.out).mono ?_
          rintro e w3 ⟨rfl, ho, hv3⟩
          rw [HP.out] at hv3
          have HS3 := Lib.hid ho.size
          have hoi3 := hoi.kept ho (by omega)
          have hbel3 := hbel.trans (ho.below hs)
          have hsz3 : w1.heap.size + 1 ≤ w3.heap.size := by rw [HS3.out]; exact hsz
          clear hsv hoi hbel hcell hsz
          have HOI := Lib.hid hoi3
          clear hoi3
          go_wp2_with fail
          obtain ⟨wo, rfl⟩ : ∃ wo : World, wo = w3 := ⟨_, rfl⟩
          go_loop [7] (fun q => ∃ j : Nat, j ≤ T.length ∧ q = .int .i64 j) (fun q => T.length - (intOf q).toNat)
          case atStart => exact ⟨0, Nat.zero_le _, rfl⟩
          case round =>
            obtain ⟨j, hj, rfl⟩ := hrel
            by_cases hlt2 : j < T.length
            · obtain ⟨g, cur, rfl, hcur, hT⟩ : ∃ g cur, a = some ⟨g, 0, none⟩ ∧ wo.heap[g]? = some (.cells cur 3 (0, 0)) ∧ cur[j]? = some (.int .i64 (T.getD j 0)) := by
                obtain ⟨_, h | ⟨g, cap', cur, hv, _, hh, _, _, _, ht⟩⟩ := HOI.out
                · omega
                · simp only [Value.slice.injEq] at hv
                  refine ⟨g, cur, hv.1, hh, ?_⟩
                  have h4 : (cur.toList.take (T.length * 1))[j]? = (T.map (Value.int .i64))[j]? := by rw [ht]
                  rw [List.getElem?_take, if_pos (by omega)] at h4
                  simp only [Array.getElem?_toList] at h4
                  rw [h4]
                  simp [List.getD, hlt2]
              have hcell : wo.cell? ⟨g, j, none⟩ = some (.int .i64 (T.getD j 0)) := by simp only [World.cell?, hcur]; simpa using hT
              have hne : (T.getD j 0 == y) = false := by
                have := HNE.out (T.getD j 0) (by simp [List.getD, hlt2])
                simpa using this
              clear hcur hT
              generalize T.getD j 0 = tj at hcell hne
              go_wp2_with fail
              go_round
              case rel => exact ⟨j + 1, by omega, by go_num⟩
              case measure => simp [intOf]; omega
            · have hown := HOI.out
              unfold OI at hown
              have HO := Lib.hid hown
              clear hown
              go_wp2_with (at_builtin; refine wpList_append_own _ rfl _ _ 22 rfl (w1.heap.size + 1) 3 i0 (.int .i64 0) 1 8 Try.underlying22 HI.out HZ0.out HZ1.out HZ2.out rfl (by decide) _ _ _ rfl (HO.out.alloc _) ⟨wo.heap.size, 0, none⟩ 1 1 [.int .i64 y] rfl rfl ?c1 ?c2 ?c3 ?c4 ?c5 ?_)
              case c2 => rfl
              case c3 => unfold maxLen; omega
              case c4 => omega
              case c5 => omega
              intro v' w4 hown' hgrow _
              have hs4 := hgrow.size
              simp at hs4
              have hg2 := (World.grownBy_alloc wo (.cells #[.int .i64 y] 3) (Value.slice a T.length c).ownBlock)
              have hlo : ∀ q, (Value.slice a T.length c).ownBlock = some q → w1.heap.size + 1 ≤ q := fun q hq => (World.ownsRow.lt HO.out q hq).1
              have hb5 : Below (w1.heap.size + 1) wo w4 := ((Below.refl _ wo).grown hg2 hsz3 hlo).grown hgrow (by simp; omega) hlo
              have hv4 : SV w4 w1.heap.size (y :: L) := hv3.of_block (hb5.block _ (by omega))
              have hbel5 : Below w.heap.size w w4 := hbel3.trans (hb5.mono (by omega))
              have HV : ∃ a' c', v' = .slice a' (T ++ [y]).length c' ∧ OI w4 (w1.heap.size + 1) (.slice a' (T ++ [y]).length c') (T ++ [y]) := by
                have h5 : OI w4 (w1.heap.size + 1) v' (T ++ [y]) := by
                  unfold OI
                  simpa using hown'
                rcases h5.2 with ⟨h6, h7⟩ | ⟨g, cap', cur, h6, _⟩
                · simp at h7
                · subst h6; exact ⟨_, _, rfl, h5⟩
              obtain ⟨a', c', rfl, hoi5⟩ := HV
              have HOI5 := Lib.hid hoi5
              have HL5 : Hid ((T ++ [y]).length = T.length + 1) := by show _ = _; simp
              have HS5 := Lib.hid (show w1.heap.size + 1 ≤ w4.heap.size by omega)
              clear hown' hg2 hlo hb5 hgrow hoi5 hbel3 hv3 hsz3
              generalize hT5 : T ++ [y] = T5 at *
              have HT5 := Lib.hid hT5
              clear hT5
              go_wp2_with fail
              go_roundw
              case rel =>
                refine ⟨k + 1, T5, y :: L, a', c', by omega, by omega, by go_num, rfl, ?_, fun _ => by rw [HL5.out]; omega, fun h => absurd h (by omega), by rw [HL5.out]; omega, hv4, HOI5.out, HS5.out, hbel5⟩
                intro x hx
                rw [← HT5.out] at hx
                rcases List.mem_append.1 hx with hx | hx
                · simp [HTL.out x hx]
                · simp at hx; simp [hx]
              case measure => simp [intOf]; omega
      · have hpos := HT0.out (by omega)
        go_wp2_with fail
        go_ret
        exact ⟨rfl, hbel⟩
    · by_cases hk0 : k = 0
      · obtain rfl : len = 0 := by omega
        obtain hTz : T.length = 0 := by omega
        generalize T.length = tl at *
        subst hTz
        go_wp2_with fail
        go_ret
        exact ⟨rfl, hbel⟩
      · have hpos := HT0.out (by omega)
        go_wp2_with fail
        go_ret
        exact ⟨rfl, hbel⟩

theorem once_empty (a : Option Addr) (cap : Nat) (w : World) :
    Calls Try.prog 4 #[.slice a 0 cap] w fun e w' => e = .returned (.bool true) ∧ Below w.heap.size w w' := by
  go_enter Try.func4, Try.ntmps4
  go_wp2_with fail
  refine (works_any _).mono ?_
  rintro e w1 ⟨rfl, hb⟩
  go_wp2_with fail
  refine (new_any _).mono ?_
  rintro e w2 ⟨rfl, hb2, hz, hv⟩
  have HZ := Lib.hid hz
  clear hz
  have hs := hb.size
  go_wp2_with fail
  go_loopw [4, 5, 6, 7] (fun t i _ _ wr => t = .slice none 0 0 ∧ i = .int .i64 0 ∧ wr = w2) (fun _ _ _ _ _ => 0)
  case atStart => exact ⟨rfl, rfl, rfl⟩
  case round =>
    obtain ⟨rfl, rfl, rfl⟩ := hrel
    go_wp2
    go_ret
    exact ⟨rfl, hb.trans (hb2.mono hs)⟩
end Go.Proofs.Ytobcefgangkilaa

namespace Go.Proofs.Ytobcefgangkilaa.sieveOnce
open Go.ChangeShapes Go.WideShapes Go.ChangeAt Go.RowKit
open Go.ChangeMaps (open_string shut_string)
set_option linter.unusedVariables false

theorem own : ownKnob Try.prog.godebug = none := by kernel_rfl
theorem laidOut : laidOutB Try.prog = true := by kernel_rfl

/-- WHAT THE WALK IS TOLD OF A SLICE OF INTEGERS THAT CAME IN: it is nil; or it leads to a row of 'cap' cells, the numbers 'zs' (the first 'len' are its elements, the rest its spare room), each fitting its kind. -/
def IsRow (k : IntKind) (w : World) (a : Option Addr) (len cap : Nat) (zs : List Int) : Prop :=
  (a = none ∧ len = 0 ∧ cap = 0 ∧ zs = []) ∨
  ∃ x, a = some x ∧ len ≤ cap ∧ cap ≤ maxLen ∧ zs.length = cap ∧ (∀ i, i < zs.length → w.cell? (x.add i) = some (.int k (zs.getD i 0))) ∧ ∀ n ∈ zs, (Lit.int k n).wf = true

/-! ### STEP 1: THE WALK: the Go text returns true, AND WRITES NOTHING THAT WAS THERE: 'Below w.heap.size w w'' (Derived/Below.lean: '.refl', '.alloc', '.drew', '.setCell' at a new block, '.trans'). Open each 'IsRow' by 'rcases' AHEAD of 'go_enter'; part every test ahead of the walk. -/
theorem walk (a0 : Option Addr) (len0 cap0 : Nat) (z0 : List Int) (w : World) (w0 : IsRow .i64 w a0 len0 cap0 z0) :
    Calls Try.prog 4 #[.slice a0 len0 cap0] w fun e w' => e = .returned (.bool true) ∧ Below w.heap.size w w' := by
  rcases w0 with ⟨rfl, rfl, rfl, rfl⟩ | ⟨x, rfl, hl, hm, hz, hc, hwf⟩
  · exact once_empty _ _ _
  · by_cases hp : 0 < len0
    · obtain ⟨b, off, rfl, hc2⟩ := ints_at hc (by omega)
      have hlt : b < w.heap.size := World.block_lt_of_cell? w _ (hc2 0 (by omega))
      exact once_full b off len0 cap0 z0 w (fun j hj => hc2 j (by omega)) hlt
    · obtain rfl : len0 = 0 := by omega
      exact once_empty _ _ _

/-! ### THE ROW's STEP: WRITTEN OUT: LEAVE IT -/
set_option maxRecDepth 100000 in
theorem lifted (os : Os) (started : os.Started) (H : Type) (enc : TypeId × Value → H) :
    ReturnsInHanded {} Try.checked os 4 .any (Rows.sieveOnceSpec.pre6 enc Try.prog Try.f4 Rows.sieveOnceRow.domain false) (Rows.sieveOnceSpec.post enc Try.prog Try.f4 false true false false) := by
  refine returnsInHanded_of_change (C := Try.checked) own started (by kernel_rfl) Try.func4
    (ChangeSpec.witness6 (enc := enc) (C := Try.checked) false ⟨#[], #[.slice none 0 0], []⟩ 8 (by kernel_rfl) (by kernel_rfl) (by kernel_rfl) (by kernel_rfl)) ?_
  intro W base args ds gs before hval0 hW hcnd _
  have hval : ∀ (j : Nat) t v, Try.f4.params[j]? = some t → args[j]? = some v → Value.okWide Try.prog W .any base t v := hval0
  have hW' := hW
  obtain ⟨p, q, hA0, hV, rfl, hfz, hnd⟩ := hW
  have hA : DataW.TrodAll enc Try.prog W 0 (fun _ => true) true Try.f4.params.toList args.toList ds p := hA0
  rw [Try.params4] at hA hval
  obtain ⟨v0, vs0, d0, ds0, p0, q0, hargs, rfl, rfl, h0, r0⟩ := trodAll_cons hA
  obtain ⟨rfl, rfl, rfl⟩ := trodAll_nil r0
  obtain rfl : args = #[v0] := by cases args; simp_all
  obtain ⟨rfl, rfl⟩ := trodVars_none hV
  obtain ⟨a0, len0, cap0, rfl⟩ := okWide_slice Try.underlying22 (hval 0 22 v0 rfl rfl)
  have k0 := h0
  have lt0 : ∀ x ∈ p0, x.block < W.heap.size := by obtain ⟨m, hm⟩ := k0; exact DataW.trod_lt m _ _ _ hm
  obtain ⟨z0, w0⟩ : ∃ zs, IsRow .i64 W a0 len0 cap0 zs := by
    obtain ⟨fuel, hf⟩ := h0
    rcases open_ints Try.underlying22 Try.underlying3 (by kernel_rfl) hf with ⟨hcs, _⟩ | ⟨x, l, c, zs, hcs, _, hl, hm, hz, _, hcell, hwz⟩
    · simp [Value.cells] at hcs
      obtain ⟨rfl, rfl, rfl⟩ := hcs
      exact ⟨[], .inl ⟨rfl, rfl, rfl, rfl⟩⟩
    · simp [Value.cells] at hcs
      obtain ⟨rfl, rfl, rfl⟩ := hcs
      exact ⟨zs, .inr ⟨_, rfl, hl, hm, by simpa using hz, hcell, hwz⟩⟩
  clear hA0 hval0
  refine (walk a0 len0 cap0 z0 W w0).mono fun e W' ⟨he, bel⟩ => ?_
  subst he
  exact ⟨_, rfl, _, _, _, [], _, [], hW', trodAll_mk1 (shut_bool Try.underlying4 _), (trodAll_cons_mk (Below.trod laidOut (by kernel_rfl) (of_decide_eq_true (by kernel_rfl)) k0 bel lt0) trodAll_mk0), rfl, bel.frame _, fun h => by cases h⟩

theorem over : Rows.sieveOnceRow.holds Try.pinned (OpenSpec.ofChange Rows.sieveOnceSpec) :=
  OpenClaim.holds_of_wide 4 Try.f4 rfl rfl rfl rfl rfl rfl rfl ⟨rfl, rfl, rfl, rfl, rfl⟩ rfl rfl rfl rfl rfl (by kernel_rfl) Try.func4 (by kernel_rfl)
    (of_decide_eq_true (by kernel_rfl)) (by unfold Func.isWrapper; first | (rw [if_pos (by decide +kernel)]; kernel_rfl) | (rw [if_neg (by decide +kernel)]; exact ⟨rfl, rfl⟩))
    (fun os started H enc _ => lifted os started H enc)

/-- ████ THE STATEMENT ████ -/
theorem proved : Rows.SieveOnceSaid := over
#print axioms proved
end Go.Proofs.Ytobcefgangkilaa.sieveOnce
