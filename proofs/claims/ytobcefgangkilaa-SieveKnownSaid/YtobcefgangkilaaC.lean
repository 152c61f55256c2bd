/- Lists of integers that came in, and lists that a call owns: small lemmas for the loops of the statements on sieves. -/
import Derived.Test.YtobcefgangkilaaB
import Derived.OwnWalk
namespace Go.Proofs.Ytobcefgangkilaa
open Go.RowKit

/-- A list of integers that came in. -/
def Row (w : World) (a : Option Addr) (len : Nat) (zs : List Int) : Prop :=
  ∀ j, j < len → ∃ b off, a = some ⟨b, off, none⟩ ∧ b < w.heap.size ∧ w.cell? ⟨b, off + j, none⟩ = some (.int .i64 (zs.getD j 0))

theorem Row.below {w w' : World} {a : Option Addr} {len : Nat} {zs : List Int} (h : Row w a len zs) (hb : Below w.heap.size w w') {j : Nat} (hj : j < len) :
    ∃ b off, a = some ⟨b, off, none⟩ ∧ w'.cell? ⟨b, off + j, none⟩ = some (.int .i64 (zs.getD j 0)) := by
  obtain ⟨b, off, h1, h2, h3⟩ := h j hj
  exact ⟨b, off, h1, (hb.cell (p := ⟨b, off + j, none⟩) h2).trans h3⟩

theorem Only.grown {b : Nat} {w w' : World} (h : Only b w w') : w.grownBy w' (some b) :=
  ⟨h.os, h.tape, h.output, by rw [h.size]; exact Nat.le_refl _, fun k _ hk => h.block k (fun e => hk (by rw [e]))⟩

/-- A list of ints that the call owns. -/
def OI (w : World) (B : Nat) (v : Value) (xs : List Int) : Prop := w.ownsRow B 3 1 v xs.length (xs.map (Value.int .i64))

theorem OI.nil (w : World) (B : Nat) : OI w B (.slice none 0 0) [] := World.ownsRow_nil w B 3 1
theorem OI.kept {w w' : World} {b B : Nat} {v : Value} {xs : List Int} (h : OI w B v xs) (ho : Only b w w') (hb : b < B) : OI w' B v xs := by
  refine World.ownsRow.kept h ho.grown ?_
  cases hv : v.ownBlock with
  | none => exact .inl rfl
  | some k =>
    right
    intro e
    have h1 := (World.ownsRow.lt h k hv).1
    simp at e; omega

theorem OI.at {w : World} {B n c : Nat} {a : Option Addr} {T : List Int} (h : OI w B (.slice a n c) T) {j : Nat} (hj : j < T.length) :
    ∃ g, a = some ⟨g, 0, none⟩ ∧ w.cell? ⟨g, j, none⟩ = some (.int .i64 (T.getD j 0)) := by
  obtain ⟨_, h | ⟨g, cap', cur, hv, _, hh, _, _, _, ht⟩⟩ := h
  · omega
  · simp only [Value.slice.injEq] at hv
    refine ⟨g, hv.1, ?_⟩
    have h4 : (cur.toList.take (T.length * 1))[j]? = (T.map (Value.int .i64))[j]? := by rw [ht]
    rw [List.getElem?_take, if_pos (by omega)] at h4
    simp only [Array.getElem?_toList] at h4
    have h5 : cur[j]? = some (.int .i64 (T.getD j 0)) := by rw [h4]; simp [List.getD, hj]
    simp only [World.cell?, hh]
    simpa using h5

theorem Try.info3 : (Try.prog.info? 3).map (fun i => (i.zero, i.size, i.bytes)) = some (some (.int .i64 0), 1, 8) := by kernel_rfl

/-- Behind an append of one number. -/
theorem OI.app {w w' : World} {B : Nat} {a : Option Addr} {n c : Nat} {v' : Value} {T : List Int} {y : Int} (h : w'.ownsRow B 3 1 v' (T.length + 1) (T.map (Value.int .i64) ++ [Value.int .i64 y]))
    (hg : (w.alloc (.cells #[.int .i64 y] 3)).grownBy w' (Value.slice a n c).ownBlock) (ho : w.ownsRow B 3 1 (.slice a n c) T.length (T.map (Value.int .i64))) (hB : B ≤ w.heap.size) :
    (∃ a' c', v' = .slice a' (T ++ [y]).length c' ∧ OI w' B (.slice a' (T ++ [y]).length c') (T ++ [y])) ∧ Below B w w' ∧ B ≤ w'.heap.size := by
  have hlo : ∀ q, (Value.slice a n c).ownBlock = some q → B ≤ q := fun q hq => (World.ownsRow.lt ho q hq).1
  have hs := hg.size
  simp at hs
  refine ⟨?_, ((Below.refl _ w).grown (World.grownBy_alloc w (.cells #[.int .i64 y] 3) (Value.slice a n c).ownBlock) hB hlo).grown hg (by simp; omega) hlo, by omega⟩
  have h5 : OI w' B v' (T ++ [y]) := by
    unfold OI
    simpa using h
  rcases h5.2 with ⟨h6, h7⟩ | ⟨g, cap', cur, h6, _⟩
  · simp at h7
  · subst h6; exact ⟨_, _, rfl, h5⟩

theorem in_of {n : Int} (h0 : 0 ≤ n) (h1 : n ≤ 9007199254740991) : Sv.inB n = true := by simp [Sv.inB, h0, h1]
theorem has_b (n : Int) (b : Nat) (L : List Int) (w : World) (x : Bool) (hs : SV w b L) (h : (Sv.inB n && Sv.known L n) = x) :
    Calls Try.prog 15 #[.pointer (some ⟨b, 0, none⟩), .int .i64 n] w fun e w' => e = .returned (.bool x) ∧ w = w' := by
  subst h; exact has_any n b L w hs
theorem fresh_b (n : Int) (b : Nat) (L : List Int) (w : World) (x : Bool) (hs : SV w b L) (h : (Sv.inB n && Sv.freshB L n) = x) :
    Calls Try.prog 19 #[.pointer (some ⟨b, 0, none⟩), .int .i64 n] w fun e w' => e = .returned (.bool x) ∧ Only b w w' ∧ SV w' b (Sv.putL L n) := by
  subst h; exact fresh_any n b L w hs
theorem known_put {L : List Int} {x n : Int} (h : (Sv.inB x && Sv.known L x) = true) : (Sv.inB x && Sv.known (Sv.putL L n) x) = true := by
  simp only [Bool.and_eq_true] at h ⊢
  refine ⟨h.1, ?_⟩
  unfold Sv.putL
  split
  · obtain ⟨l, hl, h2⟩ := (Sv.known_iff _ _).1 h.2
    exact (Sv.known_iff _ _).2 ⟨l, by simp [hl], h2⟩
  · exact h.2
/-- What the skeleton tells of a list of integers that came in, as a Row. -/
theorem Row.of {w : World} {a : Option Addr} {len cap : Nat} {zs : List Int}
    (h : (a = none ∧ len = 0 ∧ cap = 0 ∧ zs = []) ∨ ∃ x, a = some x ∧ len ≤ cap ∧ zs.length = cap ∧ (∀ i, i < zs.length → w.cell? (x.add i) = some (.int .i64 (zs.getD i 0)))) : Row w a len zs := by
  rcases h with ⟨rfl, rfl, rfl, rfl⟩ | ⟨x, rfl, hl, hz, hc⟩
  · intro j hj; omega
  · intro j hj
    have h0 := hc 0 (by omega)
    obtain ⟨b, off, spot⟩ := x
    have hspot : spot = none := by simpa [Addr.add] using World.cell?_spot h0
    subst hspot
    have hj' := hc j (by omega)
    rw [Go.WideShapes.add_plain] at hj'
    exact ⟨b, off, rfl, World.block_lt_of_cell? w _ hj', hj'⟩

/-- The append of one number onto a list that the call owns, as an arm of the walk. -/
theorem wpList_app {ops : Array Oper} {rest : List Oper} {o : Oper} {a : Act} {Q : Exit → Act → World → Prop} (hgd : o.guard = none) (s x : Operand)
    (ho : o.op = .call { callee := .builtin .append, args := #[s, x], argTypes := #[22, 22] }) (B : Nat) (T : List Int) (av : Option Addr) (c : Nat) (z : Int) (w : World)
    (hs : a.eval s = .slice av T.length c) (hx : a.eval x = .slice (some ⟨w.heap.size, 0, none⟩) 1 1) (hown : OI w B (.slice av T.length c) T) (hB : B ≤ w.heap.size) (hlen : T.length ≤ 1000)
    (h : ∀ a' c' w', OI w' B (.slice a' (T ++ [z]).length c') (T ++ [z]) → Below B w w' → B ≤ w'.heap.size → wpList Try.prog ops Q rest (a.put o.dst (.slice a' (T ++ [z]).length c')) w') :
    wpList Try.prog ops Q (o :: rest) a (w.alloc (.cells #[.int .i64 z] 3)) := by
  obtain ⟨i0, hi, hz0, hz1, hz2⟩ := info_parts Try.info3
  have HO : w.ownsRow B 3 1 (.slice av T.length c) T.length (T.map (Value.int .i64)) := hown
  refine wpList_append_own _ hgd s x 22 ho B 3 i0 (.int .i64 0) 1 8 Try.underlying22 hi hz0 hz1 hz2 rfl (by decide) _ T.length _ hs (HO.alloc _) ⟨w.heap.size, 0, none⟩ 1 1 [.int .i64 z] hx rfl ?_ ?_ ?_ ?_ ?_ ?_
  · intro j u hj
    match j, hj with
    | 0, hj =>
      simp at hj; subst hj
      simp only [Addr.add, if_true]
      rw [World.cell?_alloc_new]; rfl
  · intro u hu; simp at hu; subst hu; rfl
  · unfold maxLen; omega
  · omega
  · simp; omega
  · intro v' w' hown' hgrow _
    obtain ⟨⟨a', c', rfl, hoi4⟩, hb4, hsz4⟩ := OI.app hown' hgrow HO hB
    exact h a' c' w' hoi4 hb4 hsz4
