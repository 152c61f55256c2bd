/- A proof that sieves are as the chapter says, of all numbers that come, and of those that are asked for: Rows.SievePutsSaid, for every two lists of integers; no condition beyond the row's own. -/
import Derived.Below
import Derived.ChangeOld
import Derived.LoopN
import Derived.LoopTactic
import Derived.OpenShut
import Derived.ProofKit
import Derived.ShutString
import Derived.Test.YtobcefgangkilaaC
import Derived.Test.YtobcefgangkilaaRows
import Derived.WalkKit
namespace Go.Proofs.Ytobcefgangkilaa
open Go.RowKit

/-- Below B, block q alone may have turned. -/
structure Off (q B : Nat) (w w' : World) : Prop where
  os : w'.os = w.os
  tape : w'.tape = w.tape
  output : w'.output = w.output
  size : w.heap.size ≤ w'.heap.size
  block : ∀ k, k < B → k ≠ q → w'.heap[k]? = w.heap[k]?

theorem Off.below {q B C : Nat} {w w' : World} (h : Off q B w w') (h1 : C ≤ q) (h2 : C ≤ B) : Below C w w' :=
  ⟨h.os, h.tape, h.output, h.size, fun k hk => h.block k (by omega) (by omega)⟩

/-- Block q is the document's sieve to which the numbers M came, in order; its list lies from block B on. -/
def RS (w : World) (q B : Nat) (M : List Int) : Prop :=
  q < B ∧ B ≤ w.heap.size ∧ M.length ≤ 300 ∧ (∀ x ∈ M, 0 ≤ x ∧ x ≤ 9007199254740991) ∧
  ∃ a c, w.heap[q]? = some (.cells #[.slice a M.length c] 43 (0, 0)) ∧ OI w B (.slice a M.length c) M

theorem RS.only {w w' : World} {q B p : Nat} {M : List Int} (h : RS w q B M) (ho : Only p w w') (hp : p < B) (hq : q ≠ p) : RS w' q B M := by
  obtain ⟨h1, h2, h3, h4, a, c, h5, h6⟩ := h
  exact ⟨h1, by rw [ho.size]; exact h2, h3, h4, a, c, (ho.block q hq).trans h5, h6.kept ho hp⟩

theorem cell43 {w : World} {b : Nat} {c : Array Value} {v : Value} (h : w.heap[b]? = some (.cells c 43 (0, 0))) (hv : c[0]? = some v) : w.cell? ⟨b, 0, none⟩ = some v := by
  simp [World.cell?, h, hv]
theorem free43 {w : World} {b : Nat} {c : Array Value} (h : w.heap[b]? = some (.cells c 43 (0, 0))) : w.frozen? ⟨b, 0, none⟩ = false := by
  simp [World.frozen?, h]

theorem rwithin_yes (n : Int) (w : World) (h : 0 ≤ n) (h2 : n ≤ 9007199254740991) :
    Calls Try.prog 22 #[.int .i64 n] w fun e w' => e = .returned (.bool true) ∧ w = w' := by
  go_enter Try.func22, Try.ntmps22
  go_wp2
  go_ret
  all_goals simp
theorem rwithin_lo (n : Int) (w : World) (h : n < 0) :
    Calls Try.prog 22 #[.int .i64 n] w fun e w' => e = .returned (.bool false) ∧ w = w' := by
  go_enter Try.func22, Try.ntmps22
  go_wp2
  go_ret
  all_goals simp
theorem rwithin_hi (n : Int) (w : World) (h0 : 0 ≤ n) (h : 9007199254740991 < n) :
    Calls Try.prog 22 #[.int .i64 n] w fun e w' => e = .returned (.bool false) ∧ w = w' := by
  go_enter Try.func22, Try.ntmps22
  go_wp2
  go_ret
  all_goals simp [h]
theorem rwithin_any (n : Int) (w : World) :
    Calls Try.prog 22 #[.int .i64 n] w fun e w' => e = .returned (.bool (Sv.inB n)) ∧ w = w' := by
  by_cases h0 : n < 0
  · have : Sv.inB n = false := by simp [Sv.inB]; omega
    rw [this]; exact rwithin_lo n w h0
  · by_cases h1 : 9007199254740991 < n
    · have : Sv.inB n = false := by simp [Sv.inB]; omega
      rw [this]; exact rwithin_hi n w (by omega) h1
    · have : Sv.inB n = true := in_of (by omega) (by omega)
      rw [this]; exact rwithin_yes n w (by omega) (by omega)

theorem known_take_succ {M : List Int} {j : Nat} (hj : j < M.length) (n : Int) (h1 : ¬ M.getD j 0 = n) (h2 : ¬ 64 ≤ M.getD j 0 - n) (h : Sv.known (M.take j) n = false) : Sv.known (M.take (j + 1)) n = false := by
  rw [List.take_succ_eq_append_getElem hj]
  have e : M.getD j 0 = M[j] := by simp [List.getD, hj]
  rw [e] at h1 h2
  unfold Sv.known at h ⊢
  rw [List.any_append, h]
  simp [h1, h2]

theorem known_at {M : List Int} {j : Nat} (hj : j < M.length) (n : Int) (h : M.getD j 0 = n ∨ 64 ≤ M.getD j 0 - n) : Sv.known M n = true := by
  refine (Sv.known_iff _ _).2 ⟨M.getD j 0, ?_, h⟩
  simp [List.getD, hj]

set_option maxRecDepth 100000 in
theorem rknown_any (n : Int) (q B : Nat) (M : List Int) (w : World) (h : RS w q B M) (h0 : 0 ≤ n) (h1 : n ≤ 9007199254740991) :
    Calls Try.prog 23 #[.pointer (some ⟨q, 0, none⟩), .int .i64 n] w fun e w' => e = .returned (.bool (Sv.known M n)) ∧ w = w' := by
  obtain ⟨hq, hB, hlen, hM, a, c, hc, hoi⟩ := h
  have hcell := cell43 hc rfl
  have HM := Lib.hid hM
  have HOI := Lib.hid hoi
  clear hM hoi hc
  go_enter Try.func23, Try.ntmps23
  go_wp2_with fail
  go_loop [5] (fun i => ∃ j : Nat, j ≤ M.length ∧ i = .int .i64 j ∧ Sv.known (M.take j) n = false) (fun i => M.length - (intOf i).toNat)
  case atStart => exact ⟨0, Nat.zero_le _, rfl, by simp [Sv.known]⟩
  case round =>
    obtain ⟨j, hj, rfl, hk⟩ := hrel
    have HK := Lib.hid hk
    clear hk
    by_cases hlt : j < M.length
    · obtain ⟨g, rfl, hcell2⟩ := HOI.out.at hlt
      have hr := HM.out (M.getD j 0) (by simp [List.getD, hlt])
      have HA := Lib.hid (known_at (M := M) hlt n)
      have HS := Lib.hid (fun a b => known_take_succ (M := M) hlt n a b HK.out)
      generalize M.getD j 0 = x at hcell2 hr HA HS
      obtain ⟨hr0, hr1⟩ := hr
      by_cases hx : x = n
      · have HT := Lib.hid (HA.out (.inl hx))
        subst hx
        go_wp2_with fail
        go_ret
        exact ⟨by rw [HT.out]; rfl, rfl⟩
      · by_cases hx2 : 64 ≤ x - n
        · have HT := Lib.hid (HA.out (.inr hx2))
          have hx' : (x == n) = false := by simpa using hx
          clear hx
          go_wp2_with fail
          go_ret
          exact ⟨by rw [HT.out]; rfl, rfl⟩
        · have HT := Lib.hid (HS.out hx hx2)
          have hx' : (x == n) = false := by simpa using hx
          clear hx
          go_wp2_with fail
          go_round
          case rel => exact ⟨j + 1, by omega, by go_num, HT.out⟩
          case measure => simp [intOf]; omega
    · have HT : Hid (Sv.known M n = false) := by
        have := HK.out
        rw [List.take_of_length_le (by omega)] at this
        exact this
      go_wp2_with fail
      go_ret
      exact ⟨by rw [HT.out]; rfl, rfl⟩

theorem rhas_any (n : Int) (q B : Nat) (M : List Int) (w : World) (h : RS w q B M) :
    Calls Try.prog 16 #[.pointer (some ⟨q, 0, none⟩), .int .i64 n] w fun e w' => e = .returned (.bool (Sv.inB n && Sv.known M n)) ∧ w = w' := by
  have hw := rwithin_any n w
  cases hin : Sv.inB n with
  | false =>
    rw [hin] at hw
    have H := Lib.hid hw
    clear hw hin h
    go_enter Try.func16, Try.ntmps16
    go_wp2_with (go_at_call 22; refine H.out.mono ?_; rintro e w' ⟨rfl, rfl⟩)
    go_ret
    exact ⟨rfl, rfl⟩
  | true =>
    rw [hin] at hw
    have hb : 0 ≤ n ∧ n ≤ 9007199254740991 := by simpa [Sv.inB] using hin
    have hk := rknown_any n q B M w h hb.1 hb.2
    generalize Sv.known M n = x at hk
    have H := Lib.hid hw
    have HK := Lib.hid hk
    clear hw hin h hk hb
    go_enter Try.func16, Try.ntmps16
    go_wp2_with (first | (go_at_call 22; refine H.out.mono ?_; rintro e w' ⟨rfl, rfl⟩) | (go_at_call 23; refine HK.out.mono ?_; rintro e w' ⟨rfl, rfl⟩) | fail)
    go_ret
    exact ⟨by simp, rfl⟩

/-- The document's list of what came, behind a Put. -/
def rputL (M : List Int) (n : Int) : List Int := if Sv.inB n then M ++ [n] else M

theorem set43 {w : World} {b : Nat} {x v : Value} (h : w.heap[b]? = some (.cells #[x] 43 (0, 0))) : (w.setCell ⟨b, 0, none⟩ v).heap[b]? = some (.cells #[v] 43 (0, 0)) := by
  simp only [World.setCell, Array.getElem?_modify, h]
  simp

theorem OI.of_above {w w' : World} {B q : Nat} {v : Value} {T : List Int} (h : OI w B v T) (hq : q < B) (x : Value) (e : w' = w.setCell ⟨q, 0, none⟩ x) : OI w' B v T := by
  subst e
  obtain ⟨h1, h2⟩ := h
  refine ⟨h1, ?_⟩
  rcases h2 with h2 | ⟨g, cap, cur, hv, hg, hh, r⟩
  · exact .inl h2
  · exact .inr ⟨g, cap, cur, hv, hg, (Below.heap_setCell _ _ _ _ (by show g ≠ q; omega)).trans hh, r⟩

set_option maxRecDepth 100000 in
theorem rput_in (n : Int) (q B : Nat) (M : List Int) (w : World) (h : RS w q B M) (h0 : 0 ≤ n) (h1 : n ≤ 9007199254740991) (hl : M.length < 300) :
    Calls Try.prog 14 #[.pointer (some ⟨q, 0, none⟩), .int .i64 n] w fun e w' =>
      e = .returned (.tuple #[.bool (!Sv.known M n), .int .i64 0]) ∧ Off q B w w' ∧ RS w' q B (M ++ [n]) := by
  have hk := rknown_any n q B M w h h0 h1
  obtain ⟨hq, hB, hlen, hM, a, c, hc, hoi⟩ := h
  have hcell := cell43 hc rfl
  have hin := rwithin_yes n w h0 h1
  have HC := Lib.hid hc
  have HM := Lib.hid hM
  have HOI := Lib.hid hoi
  have HK := Lib.hid hk
  have HI := Lib.hid hin
  clear hM hoi hc hk hin
  generalize Sv.known M n = x at HK
  go_enter Try.func14, Try.ntmps14
  go_wp2_with (first
    | (go_at_call 22; refine HI.out.mono ?_; rintro e w' ⟨rfl, rfl⟩)
    | (go_at_call 23; refine HK.out.mono ?_; rintro e w' ⟨rfl, rfl⟩)
    | (at_builtin; refine wpList_app rfl _ _ rfl B M a c n _ rfl rfl HOI.out hB (by omega) ?_; intro a' c' w4 hoi4 hb4 hsz4; have hc4 := (hb4.block q hq).trans HC.out; have hcell4 := cell43 hc4 rfl; have hfr4 := free43 hc4; have HC4 := Lib.hid hc4; have HOI4 := Lib.hid hoi4; clear hc4 hoi4)
    | fail)
  go_ret2
  refine ⟨rfl, ?_, hq, by simpa [World.setCell] using hsz4, by simp; omega, ?_, a', c', ?_, ?_⟩
  · refine ⟨hb4.os, hb4.tape, hb4.output, by simpa [World.setCell] using hb4.size, fun k hk hkq => ?_⟩
    rw [Below.heap_setCell _ _ _ _ hkq]
    exact hb4.block k hk
  · intro y hy
    rcases List.mem_append.1 hy with hy | hy
    · exact HM.out y hy
    · simp at hy; subst hy; exact ⟨h0, h1⟩
  · simpa using set43 (v := .slice a' (M ++ [n]).length c') HC4.out
  · exact HOI4.out.of_above hq (.slice a' (M ++ [n]).length c') (by simp)

theorem rput_out (n : Int) (q : Nat) (w : World) (hin : Sv.inB n = false) :
    Calls Try.prog 14 #[.pointer (some ⟨q, 0, none⟩), .int .i64 n] w fun e w' => e = .returned (.tuple #[.bool false, .int .i64 9]) ∧ w = w' := by
  have hw := rwithin_any n w
  rw [hin] at hw
  have H := Lib.hid hw
  clear hw hin
  go_enter Try.func14, Try.ntmps14
  go_wp2_with (go_at_call 22; refine H.out.mono ?_; rintro e w' ⟨rfl, rfl⟩)
  go_ret2
  simp

theorem rput_any (n : Int) (q B : Nat) (M : List Int) (w : World) (h : RS w q B M) (hl : M.length < 300) :
    Calls Try.prog 14 #[.pointer (some ⟨q, 0, none⟩), .int .i64 n] w fun e w' =>
      e = .returned (.tuple #[.bool (Sv.inB n && !Sv.known M n), .int .i64 (errI n)]) ∧ Off q B w w' ∧ RS w' q B (rputL M n) := by
  cases hin : Sv.inB n with
  | false =>
    refine (rput_out n q w hin).mono ?_
    rintro e w' ⟨rfl, rfl⟩
    exact ⟨by simp [errI, hin], ⟨rfl, rfl, rfl, Nat.le_refl _, fun _ _ _ => rfl⟩, by simp only [rputL, hin]; exact h⟩
  | true =>
    have hb : 0 ≤ n ∧ n ≤ 9007199254740991 := by simpa [Sv.inB] using hin
    refine (rput_in n q B M w h hb.1 hb.2 hl).mono ?_
    rintro e w' ⟨rfl, ho, hr⟩
    exact ⟨by simp [errI, hin], ho, by simp only [rputL, hin, if_true]; exact hr⟩

theorem rnew_any (w : World) :
    Calls Try.prog 12 #[] w fun e w' => e = .returned (.pointer (some ⟨w.heap.size, 0, none⟩)) ∧ Below w.heap.size w w' ∧ w'.heap.size = w.heap.size + 1 ∧ w'.heap[w.heap.size]? = some (.cells #[.slice none 0 0] 43 (0, 0)) := by
  go_enter Try.func12, Try.ntmps12
  go_wp2
  go_ret
  refine ⟨rfl, (Below.refl _ _).alloc (Nat.le_refl _) _, by simp, ?_⟩
  show (w.heap.push _)[w.heap.size]? = _
  simp

def Same2 (L M : List Int) : Prop := ∀ x, Sv.known L x = Sv.known M x

theorem Same2.put {L M : List Int} (h : Same2 L M) (n : Int) : Same2 (Sv.putL L n) (rputL M n) := by
  intro x
  unfold Sv.putL rputL
  split
  · have e := h x
    unfold Sv.known at e ⊢
    rw [List.any_append, List.any_cons, e]
    simp [Bool.or_comm]
  · exact h x

theorem rputL_le (M : List Int) (n : Int) : (rputL M n).length ≤ M.length + 1 := by
  unfold rputL; split <;> simp

theorem put_b (n : Int) (b : Nat) (L : List Int) (w : World) (x : Bool) (y : Int) (hs : SV w b L) (h : (Sv.inB n && Sv.freshB L n) = x) (h2 : errI n = y) :
    Calls Try.prog 13 #[.pointer (some ⟨b, 0, none⟩), .int .i64 n] w fun e w' => e = .returned (.tuple #[.bool x, .int .i64 y]) ∧ Only b w w' ∧ SV w' b (Sv.putL L n) := by
  subst h; subst h2; exact put_any n b L w hs
theorem rput_b (n : Int) (q B : Nat) (M : List Int) (w : World) (x : Bool) (y : Int) (h : RS w q B M) (hl : M.length < 300) (hx : (Sv.inB n && !Sv.known M n) = x) (h2 : errI n = y) :
    Calls Try.prog 14 #[.pointer (some ⟨q, 0, none⟩), .int .i64 n] w fun e w' => e = .returned (.tuple #[.bool x, .int .i64 y]) ∧ Off q B w w' ∧ RS w' q B (rputL M n) := by
  subst hx; subst h2; exact rput_any n q B M w h hl
theorem rhas_b (n : Int) (q B : Nat) (M : List Int) (w : World) (x : Bool) (h : RS w q B M) (hx : (Sv.inB n && Sv.known M n) = x) :
    Calls Try.prog 16 #[.pointer (some ⟨q, 0, none⟩), .int .i64 n] w fun e w' => e = .returned (.bool x) ∧ w = w' := by
  subst hx; exact rhas_any n q B M w h

theorem RS.drew {w : World} {q B : Nat} {M : List Int} (h : RS w q B M) : RS w.drew q B M := h

theorem has_q (n : Int) (b : Nat) (L : List Int) (w : World) (m : Nat) (x : Bool) (hs : SV w b L) (h : (Sv.inB n && Sv.known L n) = x) :
    Calls Try.prog 15 #[.pointer (some ⟨b, 0, none⟩), .int .i64 n] (w.drewN m) fun e w' => e = .returned (.bool x) ∧ w' = w.drewN m :=
  (has_b n b L (w.drewN m) x (hs.of_block rfl) h).mono fun _ _ ⟨a, b⟩ => ⟨a, b.symm⟩
theorem rhas_q (n : Int) (q B : Nat) (M : List Int) (w : World) (m : Nat) (x : Bool) (h : RS w q B M) (hx : (Sv.inB n && Sv.known M n) = x) :
    Calls Try.prog 16 #[.pointer (some ⟨q, 0, none⟩), .int .i64 n] (w.drewN m) fun e w' => e = .returned (.bool x) ∧ w' = w.drewN m :=
  (rhas_b n q B M (w.drewN m) x h hx).mono fun _ _ ⟨a, b⟩ => ⟨a, b.symm⟩
theorem new_at (w : World) (p : Nat) (hp : w.heap.size = p) :
    Calls Try.prog 11 #[] w fun e w' => e = .returned (.pointer (some ⟨p, 0, none⟩)) ∧ Below p w w' ∧ w'.heap.size = p + 1 ∧ SV w' p [] := by
  subst hp; exact new_any w
theorem rnew_at (w : World) (p : Nat) (hp : w.heap.size = p) :
    Calls Try.prog 12 #[] w fun e w' => e = .returned (.pointer (some ⟨p, 0, none⟩)) ∧ Below p w w' ∧ w'.heap.size = p + 1 ∧ w'.heap[p]? = some (.cells #[.slice none 0 0] 43 (0, 0)) := by
  subst hp; exact rnew_any w

set_option maxRecDepth 100000 in
set_option maxHeartbeats 1000000 in
theorem puts_walk (a0 a1 : Option Addr) (len cap len2 cap2 : Nat) (zs ys : List Int) (w : World) (hr : Row w a0 len zs) (hr2 : Row w a1 len2 ys) :
    Calls Try.prog 3 #[.slice a0 len cap, .slice a1 len2 cap2] w fun e w' => e = .returned (.bool true) ∧ Below w.heap.size w w' := by
  have HR := Lib.hid hr
  have HR2 := Lib.hid hr2
  clear hr hr2
  obtain ⟨p, hp⟩ : ∃ p, w.heap.size = p := ⟨_, rfl⟩
  have HP := Lib.hid hp
  rw [hp]
  clear hp
  go_enter Try.func3, Try.ntmps3
  go_wp2_with fail
  refine (new_at _ p HP.out).mono ?_
  rintro e w1 ⟨rfl, hb, hz, hv⟩
  have HZ1 := Lib.hid hz
  clear hz
  go_wp2_with fail
  refine (rnew_at _ (p + 1) HZ1.out).mono ?_
  rintro e w2 ⟨rfl, hb2, hz, hv2⟩
  have HZ2 := Lib.hid hz
  clear hz
  go_wp2_with fail
  refine (new_at _ (p + 2) HZ2.out).mono ?_
  rintro e w3 ⟨rfl, hb3, hz, hv3⟩
  have HZ3 := Lib.hid hz
  clear hz
  have s1 : SV w3 p [] := (hv.of_block (hb2.block _ (by omega))).of_block (hb3.block _ (by omega))
  have s2 : RS w3 (p + 1) (p + 3) [] := ⟨by omega, by rw [HZ3.out]; exact Nat.le_refl _, by simp, by simp, none, 0, (hb3.block _ (by omega)).trans hv2, OI.nil _ _⟩
  have s4 : Below p w w3 := (hb.trans (hb2.mono (by omega))).trans (hb3.mono (by omega))
  clear hb hb2 hb3 hv hv2
  go_wp2_with fail
  go_loopw [8, 9, 10, 11, 12, 13] (fun i _ _ _ _ _ wr => ∃ (k : Nat) (L M O : List Int), k ≤ 300 ∧ k ≤ len ∧ i = .int .i64 k ∧ Same2 L M ∧ M.length ≤ k ∧ SV wr p L ∧ RS wr (p + 1) (p + 3) M ∧ SV wr (p + 2) O ∧ Below p w wr) (fun i _ _ _ _ _ _ => len - (intOf i).toNat)
  case atStart => exact ⟨0, [], [], [], by omega, by omega, rfl, fun _ => rfl, by simp, s1, s2, hv3, s4⟩
  case round =>
    clear s1 s2 hv3 s4
    obtain ⟨k, L, M, O, hk, hkl, rfl, hA, hMk, s1, s2, s3, hbel⟩ := hrel
    have HA := Lib.hid hA
    clear hA
    by_cases h1 : k < len ∧ k < 300
    · obtain ⟨h1, h2⟩ := h1
      obtain ⟨b, off, rfl, hblt, _⟩ := HR.out k h1
      have HC : ∀ wq, Below p w wq → wq.cell? ⟨b, off + k, none⟩ = some (.int .i64 (zs.getD k 0)) := by
        intro wq hq
        obtain ⟨b', off', e', h'⟩ := HR.out.below (w' := wq) (by rw [HP.out]; exact hq) h1
        simp only [Option.some.injEq, Addr.mk.injEq] at e'
        obtain ⟨rfl, rfl, _⟩ := e'
        exact h'
      generalize zs.getD k 0 = z at HC
      have HCC := Lib.hid HC
      rw [HP.out] at hblt
      obtain ⟨x, hx⟩ : ∃ x, (Sv.inB z && Sv.freshB L z) = x := ⟨_, rfl⟩
      have hx2 : (Sv.inB z && !Sv.known M z) = x := by rw [← hx]; unfold Sv.freshB; rw [HA.out z]
      obtain ⟨y, hy⟩ : ∃ y, errI z = y := ⟨_, rfl⟩
      obtain ⟨x', hx'⟩ : ∃ x', (Sv.inB (k : Int) && Sv.freshB O k) = x' := ⟨_, rfl⟩
      obtain ⟨y', hy'⟩ : ∃ y', errI (k : Int) = y' := ⟨_, rfl⟩
      have HX := Lib.hid hx
      have HX2 := Lib.hid hx2
      have HY := Lib.hid hy
      have HX' := Lib.hid hx'
      have HY' := Lib.hid hy'
      have HML := Lib.hid (rputL_le M z)
      have HA2 := Lib.hid (HA.out.put z)
      clear hx hx2 hy hx' hy' HC
      go_wp2_with fail
      refine (put_b _ _ _ _ _ _ s3 HX'.out HY'.out).mono ?_
      rintro e w4 ⟨rfl, ho, s3⟩
      have s1 := s1.of_block (ho.block _ (by omega))
      have s2 := s2.only ho (by omega) (by omega)
      have hbel := hbel.trans (ho.below (by omega))
      have hc := HCC.out _ hbel
      clear ho
      go_wp2_with fail
      refine (put_b _ _ _ _ _ _ s1 HX.out HY.out).mono ?_
      rintro e w5 ⟨rfl, ho, s1⟩
      have s3 := s3.of_block (ho.block _ (by omega))
      have s2 := s2.only ho (by omega) (by omega)
      have hbel := hbel.trans (ho.below (by omega))
      have hc := HCC.out _ hbel
      clear ho
      go_wp2_with fail
      refine (rput_b _ _ _ _ _ _ _ s2 (by omega) HX2.out HY.out).mono ?_
      rintro e w6 ⟨rfl, ho, s2⟩
      have s1 := s1.of_block (ho.block _ (by omega) (by omega))
      have s3 := s3.of_block (ho.block _ (by omega) (by omega))
      have hbel := hbel.trans (ho.below (by omega) (by omega))
      have hc := HCC.out _ hbel
      clear ho
      obtain ⟨v, hv⟩ : ∃ v, (Sv.inB z && Sv.known (Sv.putL L z) z) = v := ⟨_, rfl⟩
      have hv2 : (Sv.inB z && Sv.known (rputL M z) z) = v := by rw [← hv, HA2.out z]
      have HV := Lib.hid hv
      have HV2 := Lib.hid hv2
      clear hv hv2
      generalize Sv.putL L z = L2 at *
      generalize rputL M z = M2 at *
      generalize Sv.putL O (k : Int) = O2 at *
      go_wp2_with fail
      go_quiet ((first | (go_at_call 15; exact Calls.quiet_of_same (has_q _ _ _ _ _ _ s1 HV.out)) | (go_at_call 16; exact Calls.quiet_of_same (rhas_q _ _ _ _ _ _ _ s2 HV2.out))))
      go_wp2_with fail
      go_loopw [13] (fun i wq => ∃ j : Nat, j ≤ 10 ∧ j ≤ len2 ∧ i = .int .i64 j ∧ SV wq p L2 ∧ RS wq (p + 1) (p + 3) M2 ∧ SV wq (p + 2) O2 ∧ Below p w wq) (fun i _ => len2 - (intOf i).toNat)
      case atStart => exact ⟨0, by omega, by omega, rfl, s1.of_block rfl, s2, s3.of_block rfl, hbel.os, hbel.tape, hbel.output, hbel.size, hbel.block⟩
      case round =>
        clear s1 s2 s3 hbel hc
        rename_i wq _ _
        obtain ⟨j, hj, hjl, rfl, s1, s2, s3, hbel⟩ := hrel
        by_cases h3 : j < len2 ∧ j < 10
        · obtain ⟨h3, h4⟩ := h3
          obtain ⟨b2, off2, rfl, hc2⟩ := HR2.out.below (by rw [HP.out]; exact hbel) h3
          generalize ys.getD j 0 = t at hc2
          obtain ⟨v2, hv⟩ : ∃ v2, (Sv.inB t && Sv.known L2 t) = v2 := ⟨_, rfl⟩
          have hv2 : (Sv.inB t && Sv.known M2 t) = v2 := by rw [← hv, HA2.out t]
          have HW := Lib.hid hv
          have HW2 := Lib.hid hv2
          clear hv hv2
          go_wp2_with fail
          go_quiet ((first | (go_at_call 15; exact Calls.quiet_of_same (has_q _ _ _ _ _ _ s1 HW.out)) | (go_at_call 16; exact Calls.quiet_of_same (rhas_q _ _ _ _ _ _ _ s2 HW2.out))))
          go_wp2_with fail
          go_roundw
          case rel => exact ⟨j + 1, by omega, by omega, by go_num, s1.of_block rfl, s2, s3.of_block rfl, hbel.os, hbel.tape, hbel.output, hbel.size, hbel.block⟩
          case measure => simp [intOf]; omega
        · have HX : (j < len2 ∧ ¬ j < 10) ∨ ¬ j < len2 := by omega
          clear h3
          have hm : M2.length ≤ k + 1 := by have := HML.out; omega
          rcases HX with ⟨h5, h6⟩ | h5
          all_goals
            go_wp2_with fail
            go_roundw
            case rel => exact ⟨k + 1, L2, M2, O2, by omega, by omega, by go_num, HA2.out, hm, s1, s2, s3, hbel⟩
            case measure => simp [intOf]; omega
    · have HX : (k < len ∧ ¬ k < 300) ∨ ¬ k < len := by omega
      clear h1
      rcases HX with ⟨h5, h6⟩ | h5
      all_goals
        go_wp2_with (first | (go_at_call 17; refine (works_any _).mono ?_; rintro e w' ⟨rfl, hb2⟩) | fail)
        go_ret
        exact ⟨rfl, hbel.trans (hb2.mono (by have := hbel.size; have := HP.out; omega))⟩
end Go.Proofs.Ytobcefgangkilaa

namespace Go.Proofs.Ytobcefgangkilaa.sievePuts
open Go.ChangeShapes Go.WideShapes Go.ChangeAt Go.RowKit
open Go.ChangeMaps (open_string shut_string)
set_option linter.unusedVariables false

theorem own : ownKnob Try.prog.godebug = none := by kernel_rfl
theorem laidOut : laidOutB Try.prog = true := by kernel_rfl

/-- WHAT THE WALK IS TOLD OF A SLICE OF INTEGERS THAT CAME IN: it is nil; or it leads to a row of 'cap' cells, the numbers 'zs' (the first 'len' are its elements, the rest its spare room), each fitting its kind. -/
def IsRow (k : IntKind) (w : World) (a : Option Addr) (len cap : Nat) (zs : List Int) : Prop :=
  (a = none ∧ len = 0 ∧ cap = 0 ∧ zs = []) ∨
  ∃ x, a = some x ∧ len ≤ cap ∧ cap ≤ maxLen ∧ zs.length = cap ∧ (∀ i, i < zs.length → w.cell? (x.add i) = some (.int k (zs.getD i 0))) ∧ ∀ n ∈ zs, (Lit.int k n).wf = true

/-! ### STEP 1: THE WALK: the Go text returns true, AND WRITES NOTHING THAT WAS THERE: 'Below w.heap.size w w'' (Derived/Below.lean: '.refl', '.alloc', '.drew', '.setCell' at a new block, '.trans'). Open each 'IsRow' by 'rcases' AHEAD of 'go_enter'; part every test ahead of the walk. -/
theorem walk (a0 : Option Addr) (len0 cap0 : Nat) (z0 : List Int) (a1 : Option Addr) (len1 cap1 : Nat) (z1 : List Int) (w : World) (w0 : IsRow .i64 w a0 len0 cap0 z0) (w1 : IsRow .i64 w a1 len1 cap1 z1) :
    Calls Try.prog 3 #[.slice a0 len0 cap0, .slice a1 len1 cap1] w fun e w' => e = .returned (.bool true) ∧ Below w.heap.size w w' := by
  have r0 : Row w a0 len0 z0 := Row.of (cap := cap0) (by rcases w0 with h | ⟨x, rfl, hl, hm, hz, hc, hwf⟩; exact .inl h; exact .inr ⟨x, rfl, hl, hz, hc⟩)
  have r1 : Row w a1 len1 z1 := Row.of (cap := cap1) (by rcases w1 with h | ⟨x, rfl, hl, hm, hz, hc, hwf⟩; exact .inl h; exact .inr ⟨x, rfl, hl, hz, hc⟩)
  exact puts_walk a0 a1 len0 cap0 len1 cap1 z0 z1 w r0 r1

/-! ### THE ROW's STEP: WRITTEN OUT: LEAVE IT -/
set_option maxRecDepth 100000 in
theorem lifted (os : Os) (started : os.Started) (H : Type) (enc : TypeId × Value → H) :
    ReturnsInHanded {} Try.checked os 3 .any (Rows.sievePutsSpec.pre6 enc Try.prog Try.f3 Rows.sievePutsRow.domain false) (Rows.sievePutsSpec.post enc Try.prog Try.f3 false true false false) := by
  refine returnsInHanded_of_change (C := Try.checked) own started (by kernel_rfl) Try.func3
    (ChangeSpec.witness6 (enc := enc) (C := Try.checked) false ⟨#[], #[.slice none 0 0, .slice none 0 0], []⟩ 8 (by kernel_rfl) (by kernel_rfl) (by kernel_rfl) (by kernel_rfl)) ?_
  intro W base args ds gs before hval0 hW hcnd _
  have hval : ∀ (j : Nat) t v, Try.f3.params[j]? = some t → args[j]? = some v → Value.okWide Try.prog W .any base t v := hval0
  have hW' := hW
  obtain ⟨p, q, hA0, hV, rfl, hfz, hnd⟩ := hW
  have hA : DataW.TrodAll enc Try.prog W 0 (fun _ => true) true Try.f3.params.toList args.toList ds p := hA0
  rw [Try.params3] at hA hval
  obtain ⟨v0, vs0, d0, ds0, p0, q0, hargs, rfl, rfl, h0, r0⟩ := trodAll_cons hA
  obtain ⟨v1, vs1, d1, ds1, p1, q1, rfl, rfl, rfl, h1, r1⟩ := trodAll_cons r0
  obtain ⟨rfl, rfl, rfl⟩ := trodAll_nil r1
  obtain rfl : args = #[v0, v1] := by cases args; simp_all
  obtain ⟨rfl, rfl⟩ := trodVars_none hV
  obtain ⟨a0, len0, cap0, rfl⟩ := okWide_slice Try.underlying22 (hval 0 22 v0 rfl rfl)
  have k0 := h0
  have lt0 : ∀ x ∈ p0, x.block < W.heap.size := by obtain ⟨m, hm⟩ := k0; exact DataW.trod_lt m _ _ _ hm
  obtain ⟨z0, w0⟩ : ∃ zs, IsRow .i64 W a0 len0 cap0 zs := by
    obtain ⟨fuel, hf⟩ := h0
    rcases open_ints Try.underlying22 Try.underlying3 (by kernel_rfl) hf with ⟨hcs, _⟩ | ⟨x, l, c, zs, hcs, _, hl, hm, hz, _, hcell, hwz⟩
    · simp [Value.cells] at hcs
      obtain ⟨rfl, rfl, rfl⟩ := hcs
      exact ⟨[], .inl ⟨rfl, rfl, rfl, rfl⟩⟩
    · simp [Value.cells] at hcs
      obtain ⟨rfl, rfl, rfl⟩ := hcs
      exact ⟨zs, .inr ⟨_, rfl, hl, hm, by simpa using hz, hcell, hwz⟩⟩
  obtain ⟨a1, len1, cap1, rfl⟩ := okWide_slice Try.underlying22 (hval 1 22 v1 rfl rfl)
  have k1 := h1
  have lt1 : ∀ x ∈ p1, x.block < W.heap.size := by obtain ⟨m, hm⟩ := k1; exact DataW.trod_lt m _ _ _ hm
  obtain ⟨z1, w1⟩ : ∃ zs, IsRow .i64 W a1 len1 cap1 zs := by
    obtain ⟨fuel, hf⟩ := h1
    rcases open_ints Try.underlying22 Try.underlying3 (by kernel_rfl) hf with ⟨hcs, _⟩ | ⟨x, l, c, zs, hcs, _, hl, hm, hz, _, hcell, hwz⟩
    · simp [Value.cells] at hcs
      obtain ⟨rfl, rfl, rfl⟩ := hcs
      exact ⟨[], .inl ⟨rfl, rfl, rfl, rfl⟩⟩
    · simp [Value.cells] at hcs
      obtain ⟨rfl, rfl, rfl⟩ := hcs
      exact ⟨zs, .inr ⟨_, rfl, hl, hm, by simpa using hz, hcell, hwz⟩⟩
  clear hA0 hval0
  refine (walk a0 len0 cap0 z0 a1 len1 cap1 z1 W w0 w1).mono fun e W' ⟨he, bel⟩ => ?_
  subst he
  exact ⟨_, rfl, _, _, _, [], _, [], hW', trodAll_mk1 (shut_bool Try.underlying4 _), (trodAll_cons_mk (Below.trod laidOut (by kernel_rfl) (of_decide_eq_true (by kernel_rfl)) k0 bel lt0) (trodAll_cons_mk (Below.trod laidOut (by kernel_rfl) (of_decide_eq_true (by kernel_rfl)) k1 bel lt1) trodAll_mk0)), rfl, bel.frame _, fun h => by cases h⟩

theorem over : Rows.sievePutsRow.holds Try.pinned (OpenSpec.ofChange Rows.sievePutsSpec) :=
  OpenClaim.holds_of_wide 3 Try.f3 rfl rfl rfl rfl rfl rfl rfl ⟨rfl, rfl, rfl, rfl, rfl⟩ rfl rfl rfl rfl rfl (by kernel_rfl) Try.func3 (by kernel_rfl)
    (of_decide_eq_true (by kernel_rfl)) (by unfold Func.isWrapper; first | (rw [if_pos (by decide +kernel)]; kernel_rfl) | (rw [if_neg (by decide +kernel)]; exact ⟨rfl, rfl⟩))
    (fun os started H enc _ => lifted os started H enc)

/-- ████ THE STATEMENT ████ -/
theorem proved : Rows.SievePutsSaid := over
#print axioms proved
end Go.Proofs.Ytobcefgangkilaa.sievePuts
