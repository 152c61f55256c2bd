/- The abstract machine's operations: what is made; conversions between strings and bytes. -/
import Derived.Test.YthhcifmblnbokaaGreatDoorXb
import Derived.Great.BuildSlice
import Derived.Laws.MakeOwn
import Derived.Laws.BytesString
import Derived.Deep.AppendSrc
import Derived.Laws.IdiomCopy
import Derived.MapKept
import Derived.WideKeyRuns
import Derived.Laws.IdiomStrings
import Derived.Maps.RangeRun
import Derived.Lib.OthersKept
set_option linter.all false
set_option maxRecDepth 100000
noncomputable section
namespace Go.X
open Go.RowKit
def J5o (n : Nat) (parts : List ((Nat × Nat) × V)) : Nat → Option (List V) :=
  List.rec (motive := fun _ => Nat → Option (List V)) (fun pos => Bool.rec none (some []) (Nat.beq pos n))
    (fun x _ ih pos => match x.2 with
      | .u => none
      | v => Bool.rec none (match ih (pos + x.1.2) with | some l => some (v.cells ++ l) | none => none) (Nat.beq x.1.1 pos && Nat.beq v.cells.length x.1.2)) parts
def U5c (parts : List ((Nat × Nat) × V)) : List V → Option (List V) :=
  List.rec (motive := fun _ => List V → Option (List V)) (fun cells => some cells)
    (fun x _ ih cells => match x.2 with
      | .u => none
      | v => Bool.rec none (ih (cells.take x.1.1 ++ (v.cells ++ cells.drop (x.1.1 + x.1.2)))) (Nat.beq v.cells.length x.1.2 && Nat.ble (x.1.1 + x.1.2) cells.length)) parts
def W0o (cells : List V) (n : Nat) (parts : List ((Nat × Nat) × V)) : Option (List V) :=
  match J5o n parts 0 with
  | some l => some l
  | none => U5c parts cells
section
variable {P : Program} {B : Bs} {μ : M} {h : H} {w : World}
def U2i (μ : M) (place : Nat → Option (Nat × Nat)) : List ((Nat × Nat) × V) → List (Nat × Value) → Prop
  | [], l => l = []
  | x :: xs, l => ∃ i v ys, l = (i, v) :: ys ∧ place i = some x.1 ∧ VR μ x.2 v ∧ U2i μ place xs ys
theorem G7z {cells : Array Value} {cs : List V} (hc : VRs μ cs cells.toList) {off size : Nat} {x : V} {v : Value} (hx : VR μ x v) (hu : x ≠ .u) (hs : x.cells.length = size) (ho : off + size ≤ cs.length) :
    v.cells.size = size ∧ off + v.cells.size ≤ cells.size ∧
      VRs μ (cs.take off ++ (x.cells ++ cs.drop (off + size))) (v.cells.zipIdx.foldl (fun cs (c, j) => cs.setIfInBounds (off + j) c) cells).toList := by
  have h1 := hx.cells hu
  have h2 : v.cells.size = size := by rw [← hs]; have := h1.len; simpa using this
  have h3 : cells.size = cs.length := by have := hc.len; simpa using this
  refine ⟨h2, by omega, ?_⟩
  obtain ⟨f1, f2⟩ := Go.Great.foldl_set off v.cells.toList 0 cells
  have e : (v.cells.zipIdx.foldl (fun cs (c, j) => cs.setIfInBounds (off + j) c) cells) = (v.cells.toList.zipIdx 0).foldl (fun cs (x : Value × Nat) => cs.setIfInBounds (off + x.2) x.1) cells := by
    rw [← Array.foldl_toList]; simp
  rw [e]
  refine VRs.of_get (by simp only [Array.length_toList, f1, List.length_append, List.length_take, List.length_drop]; omega) fun j y hj => ?_
  have hf := f2 j
  simp only [Nat.add_zero, Array.length_toList] at hf
  rw [Array.getElem?_toList, hf]
  by_cases c1 : j < off
  · rw [if_neg (by omega)]
    rw [List.getElem?_append_left (by simp; omega), List.getElem?_take, if_pos c1] at hj
    have := hc.get j y hj
    simpa using this
  · by_cases c2 : j < off + size
    · rw [if_pos (by omega)]
      rw [List.getElem?_append_right (by simp; omega), List.getElem?_append_left (by simp; omega)] at hj
      have hlen : (cs.take off).length = off := by simp; omega
      rw [hlen] at hj
      have := h1.get (j - off) y hj
      simpa using this
    · rw [if_neg (by omega)]
      have hlen : (cs.take off).length = off := by simp; omega
      rw [List.getElem?_append_right (by simp; omega), hlen, List.getElem?_append_right (by omega), List.getElem?_drop] at hj
      rw [show off + size + (j - off - x.cells.length) = j by omega] at hj
      have := hc.get j y hj
      simpa using this
theorem J8e {place : Nat → Option (Nat × Nat)} : ∀ (parts : List ((Nat × Nat) × V)) {ps : List (Nat × Value)} {cells : Array Value} {cs l : List V}, U2i μ place parts ps → VRs μ cs cells.toList → U5c parts cs = some l →
    ∃ r, Instr.fill place cells ps = some r ∧ VRs μ l r.toList
  | [], ps, cells, cs, l, hp, hc, he => by
    have : ps = [] := hp
    subst this
    have : cs = l := by simpa [U5c] using he
    subst this
    exact ⟨cells, rfl, hc⟩
  | ((off, size), x) :: xs, ps, cells, cs, l, hp, hc, he => by
    obtain ⟨i, v, ys, rfl, h1, h2, h3⟩ := hp
    have hu : x ≠ .u := by intro e; subst e; simp [U5c] at he
    have he2 : Bool.rec none (U5c xs (cs.take off ++ (x.cells ++ cs.drop (off + size)))) (Nat.beq x.cells.length size && Nat.ble (off + size) cs.length) = some l := by
      cases x <;> first | exact he | exact absurd rfl hu
    cases hb : (Nat.beq x.cells.length size && Nat.ble (off + size) cs.length) <;> rw [hb] at he2
    · cases he2
    simp only [Bool.and_eq_true] at hb
    obtain ⟨g1, g2, g3⟩ := G7z hc h2 hu (Nat.eq_of_beq_eq_true hb.1) (Nat.le_of_ble_eq_true hb.2)
    obtain ⟨r, h4, h5⟩ := J8e xs h3 g3 he2
    refine ⟨r, ?_, h5⟩
    simp only [Instr.fill, h1]
    rw [if_neg (by simp only [ne_eq, decide_not, Bool.or_eq_true, Bool.not_eq_true', decide_eq_false_iff_not, decide_eq_true_eq]; omega)]
    exact h4
theorem U7r (n : Nat) : ∀ (parts : List ((Nat × Nat) × V)) (pos : Nat) (l : List V), J5o n parts pos = some l → pos + l.length = n
  | [], pos, l, he => by
    have he2 : Bool.rec none (some []) (Nat.beq pos n) = some l := he
    cases hb : Nat.beq pos n <;> rw [hb] at he2
    · cases he2
    simp only [Option.some.injEq] at he2; subst he2
    have := Nat.eq_of_beq_eq_true hb
    simpa using this
  | ((off, size), x) :: xs, pos, l, he => by
    have hu : x ≠ .u := by intro e; subst e; simp [J5o] at he
    have he2 : Bool.rec none (match J5o n xs (pos + size) with | some l => some (x.cells ++ l) | none => none) (Nat.beq off pos && Nat.beq x.cells.length size) = some l := by
      cases x <;> first | exact he | exact absurd rfl hu
    cases hb : (Nat.beq off pos && Nat.beq x.cells.length size) <;> rw [hb] at he2
    · cases he2
    simp only [Bool.and_eq_true] at hb
    have h2 := Nat.eq_of_beq_eq_true hb.2
    simp only at he2
    cases hd : J5o n xs (pos + size) <;> rw [hd] at he2 <;> simp only at he2
    · cases he2
    rename_i l'
    simp only [Option.some.injEq] at he2; subst he2
    have := U7r n xs _ _ hd
    rw [List.length_append]; omega
theorem U3p (n : Nat) : ∀ (parts : List ((Nat × Nat) × V)) (pre zs l : List V), J5o n parts pre.length = some l → pre.length + zs.length = n → U5c parts (pre ++ zs) = some (pre ++ l)
  | [], pre, zs, l, he, hn => by
    have he2 : Bool.rec none (some []) (Nat.beq pre.length n) = some l := he
    cases hb : Nat.beq pre.length n <;> rw [hb] at he2
    · cases he2
    simp only [Option.some.injEq] at he2; subst he2
    have := Nat.eq_of_beq_eq_true hb
    have : zs = [] := List.eq_nil_of_length_eq_zero (by omega)
    subst this
    simp [U5c]
  | ((off, size), x) :: xs, pre, zs, l, he, hn => by
    have hu : x ≠ .u := by intro e; subst e; simp [J5o] at he
    have he2 : Bool.rec none (match J5o n xs (pre.length + size) with | some l => some (x.cells ++ l) | none => none) (Nat.beq off pre.length && Nat.beq x.cells.length size) = some l := by
      cases x <;> first | exact he | exact absurd rfl hu
    cases hb : (Nat.beq off pre.length && Nat.beq x.cells.length size) <;> rw [hb] at he2
    · cases he2
    simp only [Bool.and_eq_true] at hb
    have h1 := Nat.eq_of_beq_eq_true hb.1
    have h2 := Nat.eq_of_beq_eq_true hb.2
    simp only at he2
    cases hd : J5o n xs (pre.length + size) <;> rw [hd] at he2 <;> simp only at he2
    · cases he2
    rename_i l'
    simp only [Option.some.injEq] at he2; subst he2
    have h3 := U7r n xs _ _ hd
    subst h1
    have e1 : (pre ++ zs).take pre.length = pre := by simp
    have e2 : (pre ++ zs).drop (pre.length + size) = zs.drop size := by simp [List.drop_append]
    have hlen : pre.length + size ≤ (pre ++ zs).length := by rw [List.length_append]; omega
    have ih := U3p n xs (pre ++ x.cells) (zs.drop size) l' (by rw [List.length_append, h2]; exact hd) (by rw [List.length_append, List.length_drop]; omega)
    have he3 : U5c (((pre.length, size), x) :: xs) (pre ++ zs) = Bool.rec none (U5c xs ((pre ++ zs).take pre.length ++ (x.cells ++ (pre ++ zs).drop (pre.length + size)))) (Nat.beq x.cells.length size && Nat.ble (pre.length + size) (pre ++ zs).length) := by
      cases x <;> first | rfl | exact absurd rfl hu
    rw [he3, e1, e2, h2, Nat.beq_refl, Nat.ble_eq_true_of_le hlen]
    simp only [Bool.and_self]
    rw [← List.append_assoc, ih, List.append_assoc]
theorem U1e {place : Nat → Option (Nat × Nat)} {parts : List ((Nat × Nat) × V)} {ps : List (Nat × Value)} {cells : Array Value} {cs l : List V} (hp : U2i μ place parts ps) (hc : VRs μ cs cells.toList) {n : Nat} (hn : cs.length = n)
    (he : W0o cs n parts = some l) : ∃ r, Instr.fill place cells ps = some r ∧ VRs μ l r.toList := by
  unfold W0o at he
  cases hd : J5o n parts 0 <;> rw [hd] at he <;> simp only at he
  · exact J8e parts hp hc he
  · simp only [Option.some.injEq] at he; subst he
    refine J8e parts hp hc ?_
    have := U3p n parts [] cs _ hd (by simpa using hn)
    simpa using this
theorem U0q (place : Nat → Option (Nat × Nat)) : ∀ (ps : List (Nat × Value)) (cells r : Array Value), Instr.fill place cells ps = some r → r.size = cells.size
  | [], cells, r, he => by simp [Instr.fill] at he; subst he; rfl
  | (i, v) :: ps, cells, r, he => by
    simp only [Instr.fill] at he
    cases hp : place i <;> rw [hp] at he <;> simp only at he
    · cases he
    rename_i x
    split at he
    · cases he
    · have := U0q place ps _ _ he
      rw [this, ← Array.foldl_toList]
      have := (Go.Great.foldl_set x.1 v.cells.toList 0 cells).1
      simpa using this
theorem U1c {t : TypeId} {parts : List ((Nat × Nat) × V)} {ps : List (Nat × Value)} {it : TypeInfo} {z : Value} {cs l : List V} {place : Nat → Option (Nat × Nat)} (hi : P.info? t = some it) (hz : it.zero = some z)
    (hpl : (∃ fields places, P.underlying t = some (.struct fields) ∧ fields.toList.mapM (fun f => (P.info? f.type).map fun i => (f.offset, i.size)) = some places ∧ place = (places.toArray[·]?)) ∨
      ∃ n e ie, P.underlying t = some (.array n e) ∧ P.info? e = some ie ∧ place = fun i => some (i * ie.size, ie.size))
    (hp : U2i μ place parts ps) (hc : VRs μ cs z.cells.toList) (he : W0o cs cs.length parts = some l) : ∃ y, (Instr.build t ps.toArray).run P w = .ok y w ∧ VR μ (.ag l) y := by
  obtain ⟨r, h1, h2⟩ := U1e hp hc rfl he
  refine ⟨.agg r, run_build w t _ r ?_, by simp only [VR]; exact ⟨r, rfl, h2⟩⟩
  unfold Program.built
  rcases hpl with ⟨fields, places, g1, g2, rfl⟩ | ⟨n, e, ie, g1, g2, rfl⟩
  · simp only [hi, g1, hz, g2]; exact h1
  · simp only [hi, g1, hz, g2]; exact h1
def cyc (zs : List V) (n : Nat) : List V :=
  Nat.rec (motive := fun _ => List V) [] (fun _ ih => zs ++ ih) n
theorem J4o {zs : List V} {za : Array Value} (hz : VRs μ zs za.toList) (k : Nat) : VRs μ (cyc zs k) (madeCells za (k * za.size)).toList := by
  induction k with
  | zero => simp [cyc, madeCells]; exact VRs.nil_iff.2 rfl
  | succ k ih =>
    have e : (madeCells za ((k + 1) * za.size)).toList = za.toList ++ (madeCells za (k * za.size)).toList := by
      apply List.ext_getElem?
      intro j
      by_cases c1 : j < za.size
      · rw [List.getElem?_append_left (by simpa using c1)]
        have h1 : j < (k + 1) * za.size := by rw [Nat.add_mul]; omega
        simp [madeCells, Array.getElem?_range, h1, Nat.mod_eq_of_lt c1, c1]
      · rw [List.getElem?_append_right (by simpa using c1)]
        by_cases c2 : j < (k + 1) * za.size
        · have h2 : j - za.size < k * za.size := by rw [Nat.add_mul] at c2; omega
          have h3 : j % za.size = (j - za.size) % za.size := by rw [Nat.mod_eq_sub_mod (by omega)]
          simp [madeCells, c2, h2, h3]
        · have h2 : ¬ j - za.size < k * za.size := by rw [Nat.add_mul] at c2; omega
          simp [madeCells, c2, h2]
    rw [e]
    exact VRs.append hz ih
theorem J4t {e : TypeId} {cells : Array Value} : (newRow e cells).run P w = .ok ⟨w.heap.size, 0, none⟩ (w.alloc (.cells cells e)) := by
  simp [newRow, World.alloc_eq]
def bslV (h : H) (cells : List V) (len : Nat) (parts : List ((Nat × Nat) × V)) : Option (V × H) :=
  match W0o cells cells.length parts with
  | some l => some (.sl h.next 0 len len true, h.new (.cells cells.length (C.puts l 0 .e) true))
  | none => none
theorem W9r (r : HR B μ h w) {cells : Array Value} {l : List V} {e : TypeId} (hl : VRs μ l cells.toList) {s : Sem Value} (len : Nat)
    (hs : s.run P w = .ok (.slice (some ⟨w.heap.size, 0, none⟩) len len) (w.alloc (.cells cells e))) : Runs P B μ h w s (.sl h.next 0 len len true) (h.new (.cells l.length (C.puts l 0 .e) true)) := by
  have hsz : cells.size = l.length := by have := hl.len; simpa using this
  obtain ⟨h1, h2⟩ := r.box (e := e) (by omega) hl.tree
  refine ⟨⟨_, _, _, hs, ?_, h1, h2⟩⟩
  simp only [VR]
  exact ⟨w.heap.size, 0, len, M.new_same _ _ _ _, rfl, Nat.le_refl _, fun _ => rfl, by simp⟩
theorem G3r (r : HR B μ h w) {t e : TypeId} {ie : TypeInfo} {z : Value} {len : Nat} {parts : List ((Nat × Nat) × V)} {ps : List (Nat × Value)} {cs : List V} {v : V} {h' : H}
    (ht : P.underlying t = some (.slice e)) (hi : P.info? e = some ie) (hz : ie.zero = some z) (hsmall : len * ie.size ≤ 2 ^ 24)
    (hp : U2i μ (fun i => some (i * ie.size, ie.size)) parts ps) (hc : VRs μ cs (madeCells z.cells (len * ie.size)).toList) (he : bslV h cs len parts = some (v, h')) :
    Runs P B μ h w (Instr.buildSlice t len ps.toArray) v h' := by
  unfold bslV at he
  cases hb : W0o cs cs.length parts <;> rw [hb] at he <;> simp only at he
  · cases he
  rename_i l
  simp only [Option.some.injEq, Prod.mk.injEq] at he
  obtain ⟨rfl, rfl⟩ := he
  obtain ⟨cells, h1, h2⟩ := U1e hp hc rfl hb
  have hlen : cs.length = l.length := by
    have a1 := hc.len
    have a2 := h2.len
    have a3 : cells.size = (madeCells z.cells (len * ie.size)).size := U0q _ _ _ _ h1
    simp at a1 a2
    omega
  rw [hlen]
  refine W9r r h2 (e := e) len ?_
  by_cases h0 : len * ie.size = 0
  · have h1' : Instr.fill (fun i => some (i * ie.size, ie.size)) ((Array.range 0).map fun x => (#[] : Array Value)[x % (#[] : Array Value).size]!) ps = some cells := by
      rw [h0] at h1
      have e0 : Array.range 0 = #[] := rfl
      rw [e0]
      unfold madeCells at h1
      rw [e0] at h1
      simpa using h1
    simp [Instr.buildSlice, run_underlying ht, J0w hi, h0, J4t]
    simp at h1'
    rw [h1']
    simp [J4t]
  · exact run_buildSlice w t e len _ cells ie z ht hi hz (by omega) h0 h1
def mksT (zs : List V) (n c : Nat) : C :=
  match zs with
  | [z] => C.rep z n
  | zs => C.puts (cyc zs c) 0 .e
theorem G3a (z0 : V) : ∀ (c j : Nat) (x : V), (cyc [z0] c)[j]? = some x → x = z0
  | 0, j, x, h => by have h' : (none : Option V) = some x := h; cases h'
  | c + 1, 0, x, h => (Option.some.inj h).symm
  | c + 1, j + 1, x, h => G3a z0 c j x h
theorem U3a {zs : List V} {n c : Nat} {cur : Array Value} (hc : VRs μ (cyc zs c) cur.toList) (hn : (cyc zs c).length = n) : ∀ j, j < n → ∃ v, cur[j]? = some v ∧ VR μ (C.at_ (mksT zs n c) j) v := by
  intro j hj
  have hgen := hc.tree j (by omega)
  rcases zs with _ | ⟨z0, _ | ⟨z1, zs⟩⟩
  · exact hgen
  · obtain ⟨y, e1, e2⟩ := hc.get j (cyc [z0] c)[j] (by simp [hn, hj])
    refine ⟨y, by simpa using e1, ?_⟩
    show VR μ (C.at_ (C.rep z0 n) j) y
    rcases C.at_rep z0 n j with hh | hh
    · rw [hh]; exact VR.u _
    · rw [hh]
      have := G3a z0 c j _ (List.getElem?_eq_getElem (by omega))
      rw [this] at e2; exact e2
  · exact hgen
def mksV (h : H) (size bytes : Nat) (zs : List V) (x y : V) : Option (V × H) :=
  match x with
  | .i _ l => match l with
    | .ofNat l => match y with
      | .i _ c => match c with
        | .ofNat c => Bool.rec none (some (.sl h.next 0 l c true, h.new (.cells (c * size) (mksT zs (c * size) c) true))) (Nat.ble l c && (Nat.ble (bytes * c) 281474976710656 && Nat.ble c 9223372036854775807))
        | _ => none
      | _ => none
    | _ => none
  | _ => none
theorem G1a (r : HR B μ h w) {t e : TypeId} {i : TypeInfo} {z : Value} {zs : List V} (ht : P.underlying t = some (.slice e)) (hi : P.info? e = some i) (hz : i.zero = some z) (hs : VRs μ zs z.cells.toList) (hsz : zs.length = i.size)
    {x y v : V} {h' : H} {a b : Value} (hx : VR μ x a) (hy : VR μ y b) (he : mksV h i.size i.bytes zs x y = some (v, h')) : Runs P B μ h w (Instr.makeSlice t a b) v h' := by
  cases x <;> simp only [mksV] at he <;> try (cases he; done)
  rename_i k l
  cases l <;> simp only at he <;> try (cases he; done)
  rename_i l
  cases y <;> simp only at he <;> try (cases he; done)
  rename_i k' c
  cases c <;> simp only at he <;> try (cases he; done)
  rename_i c
  cases hb : (Nat.ble l c && (Nat.ble (i.bytes * c) 281474976710656 && Nat.ble c 9223372036854775807)) <;> rw [hb] at he
  · cases he
  simp only [Option.some.injEq, Prod.mk.injEq] at he
  obtain ⟨rfl, rfl⟩ := he
  simp only [Bool.and_eq_true] at hb
  have h1 := Nat.le_of_ble_eq_true hb.1
  have h2 := Nat.le_of_ble_eq_true hb.2.1
  have h3 := Nat.le_of_ble_eq_true hb.2.2
  rw [VR.i_iff] at hx hy; subst hx; subst hy
  have hr := run_make (P := P) w t e i z ht hi hz k k' (Int.ofNat l) (Int.ofNat c) (Int.natCast_nonneg l) (Int.ofNat_le.2 h1) (by
    have : ((i.bytes * c : Nat) : Int) ≤ 281474976710656 := by omega
    rwa [Int.natCast_mul] at this) (by have : ((c : Nat) : Int) ≤ 9223372036854775807 := by omega
                                       exact this)
  have hzs : z.cells.size = i.size := by have := hs.len; simp at this; omega
  have hcy : VRs μ (cyc zs c) (madeCells z.cells (c * i.size)).toList := by rw [← hzs]; exact J4o hs c
  have hcl : (cyc zs c).length = c * i.size := by have := hcy.len; simp [madeCells] at this; omega
  obtain ⟨g1, g2⟩ := r.box (n := c * i.size) (cur := madeCells z.cells (c * i.size)) (e := e) (c := mksT zs (c * i.size) c) (by simp [madeCells]) (U3a hcy hcl)
  refine ⟨⟨_, _, _, hr, ?_, g1, g2⟩⟩
  simp only [VR]
  exact ⟨w.heap.size, 0, c, M.new_same _ _ _ _, rfl, h1, fun _ => rfl, by simp⟩
def mkmV (h : H) : V × H := (.m h.next, h.new (.map [] [] 0))
theorem G1b (r : HR B μ h w) {t : TypeId} : Runs P B μ h w (Instr.makeMap t none) (mkmV h).1 (mkmV h).2 := by
  have hs : w.heap.size ≤ (w.alloc (.map #[] 0)).heap.size := by simp
  have hw : ∀ k, k < w.heap.size → (w.alloc (.map #[] 0)).heap[k]? = w.heap[k]? := fun k hk => Below.heap_alloc _ _ _ hk
  refine ⟨⟨.map (some w.heap.size), w.alloc (.map #[] 0), M.new μ h.next (w.heap.size, 0) 0, ?_, ?_, ?_, Ext.new r hs hw rfl rfl rfl⟩⟩
  · simp [Instr.makeMap, World.alloc_eq]
  · simp only [mkmV, VR]; exact ⟨w.heap.size, 0, M.new_same _ _ _ _, rfl⟩
  · refine r.new hs r.base ?_ (fun k hk _ => hw k hk) ?_
    · intro b q' hb hm
      obtain ⟨g, q, h1, _, h3⟩ := r.obj b hb
      rw [hm] at h1; cases h1
      exact absurd (h3.lt hb) (Nat.lt_irrefl _)
    · exact ⟨#[], heap_alloc_new _ _, rfl, rfl, by simp, by simp⟩
end
end Go.X
namespace Go.X
open Go.RowKit
theorem J5j (b : Nat) {e : TypeId} {fr : Nat × Nat} : ∀ (vs : List Value) (o : Nat) (w : World) (cur : Array Value),w.heap[b]? = some (.cells cur e fr) → o + vs.length ≤ cur.size →
  ∃ cur',(w.setCells b o vs).heap[b]? = some (.cells cur' e fr) ∧ cur'.size = cur.size ∧ ∀ j,cur'[j]? = if o ≤ j ∧ j < o + vs.length then vs[j - o]? else cur[j]?
 | [],o,w,cur,h,_=>⟨cur,h,rfl,fun j=>by rw [if_neg (by simp only [List.length_nil]; omega)]⟩
 | v::vs,o,w,cur,h,hl=>by
  simp only [List.length_cons] at hl
  have h1 : (w.setCell ⟨b,o,none⟩ v).heap[b]? = some (.cells (cur.setIfInBounds o v) e fr):=by
   simp only [World.setCell,Array.getElem?_modify,h]; simp
  obtain ⟨cur',g1,g2,g3⟩:=J5j b vs (o + 1) _ _ h1 (by simp; omega)
  refine ⟨cur',g1,by rw [g2]; simp,fun j=>?_⟩
  rw [g3]
  simp only [List.length_cons]
  by_cases c1 : j = o
  ·subst c1
   rw [if_neg (by omega),if_pos (by omega),Array.getElem?_setIfInBounds_self_of_lt (by omega),Nat.sub_self]
   rfl
  ·by_cases c2 : o + 1 ≤ j ∧ j < o + 1 + vs.length
   ·rw [if_pos c2,if_pos (by omega),show j - o = (j - (o + 1)) + 1 by omega,List.getElem?_cons_succ]
   ·rw [if_neg c2,if_neg (by omega),Array.getElem?_setIfInBounds_ne (by omega)]
theorem J3y (b : Nat) : ∀ (vs : List Value) (o : Nat) (w : World),(∀ k,k ≠ b → (w.setCells b o vs).heap[k]? = w.heap[k]?) ∧ (w.setCells b o vs).heap.size = w.heap.size ∧
  (w.setCells b o vs).os = w.os ∧ (w.setCells b o vs).tape = w.tape ∧ (w.setCells b o vs).output = w.output
 | [],o,w=>⟨fun _ _=>rfl,rfl,rfl,rfl,rfl⟩
 | v::vs,o,w=>by
  obtain ⟨h1,h2,h3,h4,h5⟩:=J3y b vs (o + 1) (w.setCell ⟨b,o,none⟩ v)
  refine ⟨fun k hk=>(h1 k hk).trans (Below.heap_setCell _ _ _ _ hk),h2.trans (by simp [World.setCell]),h3,h4,h5⟩
section
variable {P : Program} {B : Bs} {μ : M} {h : H} {w : World}
theorem OR.put {g q N n n' o k : Nat} {c c2 : C} {z : Bool} {xs : List V} {vs : List Value} (hor : OR B μ w g q N (.cells n c z)) (hx : VRs μ xs vs) (hN : o + k + xs.length ≤ N) (hn' : o + n' ≤ N)
  (h2 : ∀ i,i < n' → ¬ (k ≤ i ∧ i < k + xs.length) → o + i < n ∧ (C.at_ c2 i = .u ∨ C.at_ c2 i = C.at_ c (o + i))) :
  OR B μ (w.setCells g (q + o + k) vs) g (q + o) (N - o) (.cells n' (C.puts xs k c2) z) ∧
   (∀ j,j < vs.length → (w.cell? ⟨g,q + o + k + j,none⟩).isSome = true) ∧ ∀ j,j < vs.length → w.frozen? ⟨g,q + o + k + j,none⟩ = false:=by
 obtain ⟨cur,e,fr,h3,h4,h5,h6,h7,h8⟩:=hor
 have hlen:=hx.len
 obtain ⟨cur',g1,g2,g3⟩:=J5j g vs (q + o + k) w cur h3 (by omega)
 refine ⟨⟨cur',e,fr,g1,h4,by omega,by omega,fun i hi=>?_,fun i hi=>?_⟩,fun j hj=>?_,fun j hj=>?_⟩
 ·have:=h7 (o + i) (by omega)
  rwa [← Nat.add_assoc] at this
 ·rw [g3]
  rcases C.at_puts xs k c2 i with hh | ⟨x,e1,e2,e3⟩ | ⟨e1,e2⟩
  ·rw [hh]
   by_cases c1 : q + o + k ≤ q + o + i ∧ q + o + i < q + o + k + vs.length
   ·rw [if_pos c1]
    exact ⟨vs[q + o + i - (q + o + k)]'(by omega),List.getElem?_eq_getElem _,VR.u _⟩
   ·rw [if_neg c1]
    obtain ⟨d1,_⟩:=h2 i hi (by omega)
    obtain ⟨v,d2,_⟩:=h8 (o + i) d1
    exact ⟨v,by rwa [← Nat.add_assoc] at d2,VR.u _⟩
  ·have hlt:=(List.getElem?_eq_some_iff.1 e2).1
   rw [if_pos (by omega),e3]
   obtain ⟨y,d1,d2⟩:=hx.get _ _ e2
   exact ⟨y,by rw [show q + o + i - (q + o + k) = i - k by omega]; exact d1,d2⟩
  ·rw [if_neg (by omega),e2]
   obtain ⟨d1,d2⟩:=h2 i hi e1
   obtain ⟨v,d3,d4⟩:=h8 (o + i) d1
   refine ⟨v,by rwa [← Nat.add_assoc] at d3,?_⟩
   rcases d2 with d2 | d2
   ·rw [d2]; exact VR.u _
   ·rw [d2]; exact d4
 ·have : q + o + k + j < cur.size:=by omega
  simp [World.cell?,h3,this]
 ·have:=h7 (o + k + j) (by omega)
  simp only [World.frozen?,h3]
  cases hx : (decide (fr.1 ≤ q + o + k + j) && decide (q + o + k + j < fr.2)) with
  | false=>rfl
  | true=>simp at hx; exact absurd (by omega) this
theorem HR.over (r : HR B μ h w) {b : Nat} {n k : Nat} {c : C} {z : Bool} (hb : h.get b = .cells n c z) {g q : Nat} (hm : μ b = some (g,q)) {xs : List V} {vs : List Value} (hx : VRs μ xs vs) (hk : k + xs.length ≤ n) :
  (HR B μ (h.upd b (.cells n (C.puts xs k c) z)) (w.setCells g (q + k) vs) ∧ Ext μ h w μ (h.upd b (.cells n (C.puts xs k c) z)) (w.setCells g (q + k) vs)) ∧
   (∀ j,j < vs.length → (w.cell? ⟨g,q + k + j,none⟩).isSome = true) ∧ ∀ j,j < vs.length → w.frozen? ⟨g,q + k + j,none⟩ = false:=by
 have hd : h.get b ≠ .dead:=by rw [hb]; simp
 obtain ⟨g',q',h1,h2,h3⟩:=r.obj b hd
 rw [hm] at h1; cases h1
 rw [hb] at h3
 have hnN : n ≤ μ.cap b:=by obtain ⟨_,_,_,_,_,h5,_⟩:=h3; exact h5
 obtain ⟨f1,f2,f3⟩:=OR.put (o:=0) (k:=k) (n':=n) (c2:=c) h3 hx (by omega) (by omega) (fun i hi _=>⟨by omega,.inr (by rw [Nat.zero_add])⟩)
 simp only [Nat.add_zero,Nat.sub_zero] at f1 f2 f3
 obtain ⟨s1,s2,s3,s4,s5⟩:=J3y g vs (q + k) w
 exact ⟨⟨r.upd hd hm s1 s2 f1,Ext.upd hd hm s1 s2 s3 s4 s5⟩,f2,f3⟩
def srcV (h : H) (size : Nat) (str : Bool) (x : V) : Option (Nat × List V) :=
 Bool.rec (match x with
  | .sn=>some (0,[])
  | .se=>some (0,[])
  | .sl b o len _ _=>Bool.rec (match h.get b with
    | .cells n c _=>Bool.rec none (some (len,C.list c (len * size) o)) (Nat.ble (o + len * size) n)
    | _=>none) (some (0,[])) (Nat.beq len 0)
  | _=>none) (match x with
  | .s l=>some (l.length,l.map fun b=>.i .u8 (.ofNat b))
  | _=>none) str
theorem HR.list (r : HR B μ h w) {b : Nat} {n : Nat} {c : C} {z : Bool} (hb : h.get b = .cells n c z) {g q : Nat} (hm : μ b = some (g,q)) {o m : Nat} (ho : o + m ≤ n) :
  ∃ vs : List Value,VRs μ (C.list c m o) vs ∧ vs.length = m ∧ ∀ j u,vs[j]? = some u → w.cell? ⟨g,q + o + j,none⟩ = some u:=by
 refine ⟨(List.range m).map fun j=>(w.cell? ⟨g,q + o + j,none⟩).getD undef,?_,by simp,?_⟩
 ·refine VRs.of_get (by simp [C.list_length]) fun j x hj=>?_
  have hjm : j < m:=by have:=(List.getElem?_eq_some_iff.1 hj).1; rwa [C.list_length] at this
  rw [C.list_get _ _ _ _ hjm] at hj
  simp only [Option.some.injEq] at hj; subst hj
  obtain ⟨g',q',v,h1,h2,_,h4,_⟩:=r.cell hb (o:=o + j) (by omega)
  rw [hm] at h1; cases h1
  refine ⟨v,?_,h4⟩
  rw [← Nat.add_assoc] at h2
  simp [hjm,h2]
 ·intro j u hj
  have hjm : j < m:=by have:=(List.getElem?_eq_some_iff.1 hj).1; simpa using this
  obtain ⟨g',q',v,h1,h2,_⟩:=r.cell hb (o:=o + j) (by omega)
  rw [hm] at h1; cases h1
  rw [← Nat.add_assoc] at h2
  simp [hjm,h2] at hj
  subst hj; exact h2
theorem J4b (s : ByteArray) : VRs μ ((bytesOf s).map fun b=>.i .u8 (.ofNat b)) (byteCells s):=by
 unfold bytesOf byteCells
 rw [List.map_map]
 generalize s.data.toList = l
 induction l with
 | nil=>exact VRs.nil_iff.2 rfl
 | cons b l ih=>exact VRs.cons_mk (by show VR μ (.i .u8 (.ofNat b.toNat)) (.int .u8 b.toNat); rw [VR.i_iff]; rfl) ih
theorem U6f (r : HR B μ h w) {size : Nat} {tx : TypeId} {str : Bool} (hk : if str then P.underlying tx = some .string ∧ size = 1 else ∃ e',P.underlying tx = some (.slice e')) {x : V} {a : Value} (hx : VR μ x a) {n : Nat} {l : List V}
  (he : srcV h size str x = some (n,l)) (ho : l.all V.one = true) : ∃ news,Src P size tx a n news w ∧ VRs μ l news ∧ l.length = n * size:=by
 unfold srcV at he
 cases str
 ·simp only [Bool.false_eq_true,if_false] at hk
  obtain ⟨e',hk⟩:=hk
  simp only at he
  cases x <;> simp only at he <;> try (cases he; done)
  ·rename_i b o len cap ex
   simp only [VR] at hx
   obtain ⟨g,q,c,hm,rfl,hlc,_⟩:=hx
   cases h0 : Nat.beq len 0 <;> rw [h0] at he
   ·simp only at he
    cases hb : h.get b <;> rw [hb] at he <;> simp only at he <;> try (cases he; done)
    rename_i n' c' z
    cases hl : Nat.ble (o + len * size) n' <;> rw [hl] at he
    ·cases he
    simp only [Option.some.injEq,Prod.mk.injEq] at he
    obtain ⟨rfl,rfl⟩:=he
    obtain ⟨vs,h1,h2,h3⟩:=r.list hb hm (o:=o) (m:=len * size) (Nat.le_of_ble_eq_true hl)
    exact ⟨vs,Src.ofSlice w hk _ _ _ vs h2 (fun j u hj=>by rw [J0x]; exact h3 j u hj) (h1.one ho),h1,by rw [C.list_length]⟩
   ·simp only [Option.some.injEq,Prod.mk.injEq] at he
    obtain ⟨rfl,rfl⟩:=he
    have:=Nat.eq_of_beq_eq_true h0; subst this
    exact ⟨[],Src.ofSlice w hk _ _ _ [] (by simp) (by simp) (by simp),VRs.nil_iff.2 rfl,by simp⟩
  ·simp only [Option.some.injEq,Prod.mk.injEq] at he
   obtain ⟨rfl,rfl⟩:=he
   simp only [VR] at hx
   obtain ⟨g,q,c,rfl⟩:=hx
   exact ⟨[],Src.ofSlice w hk _ _ _ [] (by simp) (by simp) (by simp),VRs.nil_iff.2 rfl,by simp⟩
  ·simp only [Option.some.injEq,Prod.mk.injEq] at he
   obtain ⟨rfl,rfl⟩:=he
   simp only [VR] at hx; subst hx
   exact ⟨[],Src.ofNil w hk 0,VRs.nil_iff.2 rfl,by simp⟩
 ·simp only [if_true] at hk
  obtain ⟨hk,rfl⟩:=hk
  simp only at he
  cases x <;> simp only at he <;> try (cases he; done)
  rename_i s0
  simp only [VR] at hx
  obtain ⟨s,rfl,rfl⟩:=hx
  simp only [Option.some.injEq,Prod.mk.injEq] at he
  obtain ⟨rfl,rfl⟩:=he
  refine ⟨byteCells s,?_,J4b s,by simp⟩
  rw [J0s]
  exact Src.ofString w hk s
theorem G6h {size : Nat} {str : Bool} {x : V} {l : List V} (he : srcV h size str x = some (0,l)) : l = []:=by
 unfold srcV at he
 cases str
 ·simp only at he
  cases x <;> simp only at he <;> try (cases he; done)
  ·rename_i b o len cap ex
   cases h0 : Nat.beq len 0 <;> rw [h0] at he
   ·simp only at he
    cases hb : h.get b <;> rw [hb] at he <;> simp only at he <;> try (cases he; done)
    rename_i n' c' z
    cases hl : Nat.ble (o + len * size) n' <;> rw [hl] at he
    ·cases he
    simp only [Option.some.injEq,Prod.mk.injEq] at he
    rw [he.1] at h0; cases h0
   ·simp only [Option.some.injEq,Prod.mk.injEq] at he
    exact he.2.symm
  ·simp only [Option.some.injEq,Prod.mk.injEq] at he
   exact he.2.symm
  ·simp only [Option.some.injEq,Prod.mk.injEq] at he
   exact he.2.symm
 ·simp only at he
  cases x <;> simp only at he <;> try (cases he; done)
  simp only [Option.some.injEq,Prod.mk.injEq] at he
  rw [← he.2,List.eq_nil_of_length_eq_zero he.1]; rfl
def J8t (c : C) (m o : Nat) : C:=Bool.rec (C.puts (C.list c m o) 0 .e) c (Nat.beq o 0)
theorem W1o (l : List V) (i : Nat) (hi : i < l.length) : C.at_ (C.puts l 0 .e) i = .u ∨ l[i]? = some (C.at_ (C.puts l 0 .e) i):=by
 rcases C.at_puts l 0 .e i with h | ⟨x,_,h2,h3⟩ | ⟨h1,_⟩
 ·exact .inl h
 ·exact .inr (by rw [h3]; simpa using h2)
 ·exact absurd ⟨Nat.zero_le _,by omega⟩ h1
theorem W2i (c : C) (m o i : Nat) (hi : i < m) : C.at_ (J8t c m o) i = .u ∨ C.at_ (J8t c m o) i = C.at_ c (o + i):=by
 unfold J8t
 cases ho : Nat.beq o 0
 ·rcases W1o (C.list c m o) i (by rw [C.list_length]; exact hi) with hh | hh
  ·exact .inl hh
  ·rw [C.list_get _ _ _ _ hi] at hh
   exact .inr (Option.some.inj hh).symm
 ·have:=Nat.eq_of_beq_eq_true ho; subst this
  exact .inr (by rw [Nat.zero_add])
theorem W1n (c : C) (m o : Nat) (l : List V) (i : Nat) (hi : i < m + l.length) :
  C.at_ (C.puts l m (J8t c m o)) i = .u ∨ (C.list c m o ++ l)[i]? = some (C.at_ (C.puts l m (J8t c m o)) i):=by
 rcases C.at_puts l m (J8t c m o) i with h | ⟨x,h1,h2,h3⟩ | ⟨h1,h2⟩
 ·exact .inl h
 ·refine .inr ?_
  rw [h3,List.getElem?_append_right (by rw [C.list_length]; exact h1),C.list_length,h2]
 ·have him : i < m:=by omega
  rw [h2]
  rcases W2i c m o i him with h3 | h3
  ·exact .inl h3
  ·exact .inr (by rw [List.getElem?_append_left (by rw [C.list_length]; exact him),C.list_get _ _ _ _ him,h3])
def appV (h : H) (size bytes : Nat) (str : Bool) (s x : V) : Option (V × H) :=
 match srcV h size str x with
 | none=>none
 | some (n,l)=>Bool.rec (Bool.rec none (match s with
   | .sn=>Bool.rec none (some (.sl h.next 0 n size false,h.new (.cells (n * size) (C.puts l 0 .e) true))) (Nat.ble (n * bytes) 140737488355328 && Nat.ble n 1000000000)
   | .sl b o len cap ex=>match h.get b with
    | .cells nb c z=>Bool.rec none (Bool.rec
      (Bool.rec none (some (.sl h.next 0 (len + n) size false,(h.upd b .dead).new (.cells ((len + n) * size) (C.puts l (len * size) (J8t c (len * size) o)) z))) (Nat.beq cap size))
      (Bool.rec (some (.sl h.next 0 (len + n) size false,h.new (.cells ((len + n) * size) (C.puts l (len * size) (J8t c (len * size) o)) true)))
       (Bool.rec none (some (.sl b o (len + n) cap true,h.upd b (.cells nb (C.puts l (o + len * size) c) z))) (Nat.ble (o + (len + n) * size) nb)) (Nat.ble (len + n) cap)) ex)
      (Nat.ble (o + len * size) nb && (Nat.ble ((len + n) * bytes) 140737488355328 && Nat.ble (len + n) 1000000000))
    | _=>none
   | _=>none) (l.all V.one)) (match s with | .sn=>some (.sn,h) | .se=>some (.se,h) | .sl b o len cap ex=>some (.sl b o len cap ex,h) | _=>none) (Nat.beq n 0)
theorem J5x (r : HR B μ h w) {olds news : List Value} {lo ln : List V} {t : C} (h1 : VRs μ lo olds) (h2 : VRs μ ln news) (rest : Array Value) (e : TypeId) (z : Bool)
  (ht : ∀ i,i < lo.length + ln.length → C.at_ t i = .u ∨ (lo ++ ln)[i]? = some (C.at_ t i)) :
  HR B (M.new μ h.next (w.heap.size,0) (olds.length + news.length + rest.size)) (h.new (.cells (lo.length + ln.length) t z)) (w.drew.alloc (.cells ((olds ++ news).toArray ++ rest) e)) ∧
   Ext μ h w (M.new μ h.next (w.heap.size,0) (olds.length + news.length + rest.size)) (h.new (.cells (lo.length + ln.length) t z)) (w.drew.alloc (.cells ((olds ++ news).toArray ++ rest) e)):=by
 have r2 : HR B μ h w.drew:=r.drew
 have hl1:=h1.len
 have hl2:=h2.len
 have hs:=VRs.append h1 h2
 obtain ⟨g1,g2⟩:=r2.row (n:=lo.length + ln.length) (N:=olds.length + news.length + rest.size) (c:=t) (z:=z) (cur:=(olds ++ news).toArray ++ rest) (e:=e) (fr:=(0,0))
  (by omega) (by simp) (fun _=>rfl) (fun i _=>by omega) (fun i hi=>by
   obtain ⟨y,e1,e2⟩:=hs.get i ((lo ++ ln)[i]'(by simpa using hi)) (List.getElem?_eq_getElem _)
   have hlt : i < (olds ++ news).length:=(List.getElem?_eq_some_iff.1 e1).1
   refine ⟨y,?_,?_⟩
   ·rw [Array.getElem?_append_left (by simpa using hlt)]; simpa using e1
   ·rcases ht i hi with hh | hh
    ·rw [hh]; exact VR.u _
    ·rw [List.getElem?_eq_getElem (by simpa using hi)] at hh
     rw [← Option.some.inj hh]; exact e2)
 exact ⟨g1,Ext.drew.trans g2⟩
theorem G2n {size len cap : Nat} {a : Addr} {olds : List Value} (h2 : olds.length = len * size) (h3 : ∀ j u,olds[j]? = some u → w.cell? (a.add j) = some u) :
  (Builtin.firstCells size len (.slice (some a) len cap)).run P w.drew = .ok olds.toArray w.drew :=
 run_firstCells_some w.drew size len a len cap olds h2 (by simpa using h3)
set_option maxHeartbeats 1000000 in
theorem U7z (r : HR B μ h w) {t tx ty e : TypeId} {i : TypeInfo} {zv : Value} {str : Bool} (ht : P.underlying t = some (.slice e)) (hi : P.info? e = some i) (hz : i.zero = some zv) (hzs : zv.cells.size = i.size) (hs0 : 0 < i.size)
  (hk : if str then P.underlying tx = some .string ∧ i.size = 1 else ∃ e',P.underlying tx = some (.slice e')) {s x v : V} {h' : H} {a b : Value} (hs : VR μ s a) (hx : VR μ x b) (he : appV h i.size i.bytes str s x = some (v,h')) :
  Runs P B μ h w (Builtin.append_ #[t,tx] ty #[a,b]) v h':=by
 unfold appV at he
 cases hsrc : srcV h i.size str x <;> rw [hsrc] at he <;> simp only at he
 ·cases he
 rename_i nl
 obtain ⟨n,l⟩:=nl
 simp only at he
 cases hn0 : Nat.beq n 0 <;> rw [hn0] at he
 ·simp only at he
  have hn : 0 < n:=by
   cases n with
   | zero=>simp at hn0
   | succ n=>omega
  cases ho : l.all V.one <;> rw [ho] at he
  ·cases he
  simp only at he
  obtain ⟨news,hS,hl,hll⟩:=U6f r hk hx hsrc ho
  cases s <;> simp only at he <;> try (cases he; done)
  ·rename_i p o len cap ex
   simp only [VR] at hs
   obtain ⟨g,q,c,hm,rfl,hlc,hex,hnex⟩:=hs
   cases hb : h.get p <;> rw [hb] at he <;> simp only at he <;> try (cases he; done)
   rename_i nb ct z
   cases hck : (Nat.ble (o + len * i.size) nb && (Nat.ble ((len + n) * i.bytes) 140737488355328 && Nat.ble (len + n) 1000000000)) <;> rw [hck] at he
   ·cases he
   simp only [Bool.and_eq_true] at hck
   have k1:=Nat.le_of_ble_eq_true hck.1
   have k2:=Nat.le_of_ble_eq_true hck.2.1
   have k3:=Nat.le_of_ble_eq_true hck.2.2
   obtain ⟨olds,o1,o2,o3⟩:=r.list hb hm (o:=o) (m:=len * i.size) k1
   have hfirst:=G2n (P:=P) (w:=w) (size:=i.size) (len:=len) (cap:=c) (a:=⟨g,q + o,none⟩) o2 (fun j u hj=>by rw [J0x]; exact o3 j u hj)
   have hmul : (len + n) * i.size = len * i.size + n * i.size:=Nat.add_mul _ _ _
   have hgrow : ¬ (len + n ≤ c) → ∃ N,(Builtin.append_ #[t,tx] ty #[.slice (some ⟨g,q + o,none⟩) len c,b]).run P w =
     .ok (.slice (some ⟨w.heap.size,0,none⟩) (len + n) (grownCap w (len + n) c e)) (w.drew.alloc (.cells ((olds ++ news).toArray ++ Builtin.zeroCells zv.cells (grownCap w (len + n) c e - (len + n))) e)) ∧
     N = olds.length + news.length + (Builtin.zeroCells zv.cells (grownCap w (len + n) c e - (len + n))).size ∧ N = grownCap w (len + n) c e * i.size:=by
    intro hc
    refine ⟨_,run_append_grow_src w t tx ty e i zv ht hi hz _ len c olds hfirst b n news hS (by omega) (by omega) (growslice_fits (by omega) k2),rfl,?_⟩
    rw [size_zeroCells,hzs,o2,hS.newsLen,← hmul,← Nat.add_mul]
    congr 1
    have:=grownCap_ge w (len + n) c e
    omega
   simp only at he
   cases ex
   ·simp only at he
    cases hcs : Nat.beq cap i.size <;> rw [hcs] at he
    ·cases he
    have:=Nat.eq_of_beq_eq_true hcs; subst this
    simp only [Option.some.injEq,Prod.mk.injEq] at he
    obtain ⟨rfl,rfl⟩:=he
    have hcap:=hnex rfl
    have hd : h.get p ≠ .dead:=by rw [hb]; simp
    obtain ⟨g',q',b1,b2,b3⟩:=r.obj p hd
    rw [hm] at b1; cases b1
    rw [hb] at b3
    by_cases hc : len + n ≤ c
    ·
     have hcs : (len + n) * i.size ≤ c * i.size:=Nat.mul_le_mul_right _ hc
     have hfree : ∀ b' q',(h.upd p .dead).get b' ≠ .dead → μ b' ≠ some (g,q'):=by
      intro b' q' e1 e2
      by_cases e : p = b'
      ·subst e; rw [H.get_upd_same] at e1; exact e1 rfl
      ·rw [H.get_upd_ne h _ e] at e1
       exact e (r.inj p b' g q g q' hd e1 hm e2 rfl)
     obtain ⟨f1,f2,f3⟩:=OR.put (o:=o) (k:=len * i.size) (n':=(len + n) * i.size) (c2:=J8t ct (len * i.size) o) b3 hl (by omega) (by omega) (fun j hj hj2=>by
      have : j < len * i.size:=by omega
      exact ⟨by omega,W2i ct _ o j this⟩)
     obtain ⟨s1,s2,s3,s4,s5⟩:=J3y g news (q + o + len * i.size) w
     have rk:=r.kill p
     have hnx : (h.upd p .dead).next = h.next:=rfl
     refine ⟨⟨_,_,M.new μ h.next (g,q + o) (μ.cap p - o),run_append_room_src w t tx ty e i ht hi g (q + o) len c b n news hS hc f2 f3,?_,?_,?_⟩⟩
     ·simp only [VR]
      exact ⟨g,q + o,c,M.new_same _ _ _ _,rfl,hc,by simp,fun _=>by rw [M.new_cap]; omega⟩
     ·have hmono : OR B (M.new μ h.next (g,q + o) (μ.cap p - o)) (w.setCells g (q + o + len * i.size) news) g (q + o) (μ.cap p - o) (.cells ((len + n) * i.size) (C.puts l (len * i.size) (J8t ct (len * i.size) o)) z) :=
       f1.mono (M.le_new r.next_none) rfl
      exact rk.new (by rw [s2]; exact Nat.le_refl _) b2 hfree (fun k _ hk=>s1 k hk) hmono
     ·refine ⟨M.le_new r.next_none,Nat.le_succ _,s3,s4,s5,by rw [s2]; exact Nat.le_refl _,?_,?_,fun b hb=>M.new_ne _ _ _ (by omega)⟩
      ·intro k hk hn'
       exact s1 k fun e=>hn' p q hd (by rw [e]; exact hm)
      ·intro b' g' q' e1 e2 _
       by_cases e : h.next = b'
       ·subst e
        rw [M.new_same] at e2; cases e2
        exact ⟨p,q,hd,hm⟩
       ·rw [M.new_ne _ _ _ e] at e2
        rw [H.get_new_ne (h.upd p .dead) _ (show (h.upd p .dead).next ≠ b' from e)] at e1
        by_cases e' : p = b'
        ·subst e'; rw [H.get_upd_same] at e1; exact absurd rfl e1
        ·rw [H.get_upd_ne h _ e'] at e1
         exact ⟨b',q',e1,e2⟩
    ·obtain ⟨N,g1,g2,g3⟩:=hgrow hc
     have rk:=r.kill p
     obtain ⟨f1,f2⟩:=J5x rk (t:=C.puts l (len * i.size) (J8t ct (len * i.size) o)) o1 hl (Builtin.zeroCells zv.cells (grownCap w (len + n) c e - (len + n))) e z (fun j hj=>by
      rw [C.list_length] at hj; exact W1n ct _ o l j hj)
     rw [C.list_length,hll,← hmul] at f1 f2
     refine ⟨⟨_,_,_,g1,?_,f1,(Ext.kill p).trans f2⟩⟩
     simp only [VR]
     refine ⟨w.heap.size,0,_,M.new_same _ _ _ _,rfl,grownCap_ge _ _ _ _,by simp,fun _=>?_⟩
     show 0 + _ ≤ (M.new μ h.next (w.heap.size,0) _).cap h.next
     rw [M.new_cap,← g2,g3]; omega
   ·simp only at he
    have:=hex rfl; subst this
    cases hroom : Nat.ble (len + n) c <;> rw [hroom] at he
    ·simp only [Option.some.injEq,Prod.mk.injEq] at he
     obtain ⟨rfl,rfl⟩:=he
     have hc : ¬ (len + n ≤ c):=fun e=>by rw [Nat.ble_eq_true_of_le e] at hroom; cases hroom
     obtain ⟨N,g1,g2,g3⟩:=hgrow hc
     obtain ⟨f1,f2⟩:=J5x r (t:=C.puts l (len * i.size) (J8t ct (len * i.size) o)) o1 hl (Builtin.zeroCells zv.cells (grownCap w (len + n) c e - (len + n))) e true (fun j hj=>by
      rw [C.list_length] at hj; exact W1n ct _ o l j hj)
     rw [C.list_length,hll,← hmul] at f1 f2
     refine ⟨⟨_,_,_,g1,?_,f1,f2⟩⟩
     simp only [VR]
     refine ⟨w.heap.size,0,_,M.new_same _ _ _ _,rfl,grownCap_ge _ _ _ _,by simp,fun _=>?_⟩
     rw [M.new_cap,← g2,g3]; omega
    ·simp only at he
     cases hfit : Nat.ble (o + (len + n) * i.size) nb <;> rw [hfit] at he
     ·cases he
     simp only [Option.some.injEq,Prod.mk.injEq] at he
     obtain ⟨rfl,rfl⟩:=he
     have hc:=Nat.le_of_ble_eq_true hroom
     have hf:=Nat.le_of_ble_eq_true hfit
     obtain ⟨⟨f1,f2⟩,f3,f4⟩:=r.over hb hm (k:=o + len * i.size) hl (by omega)
     rw [← Nat.add_assoc] at f1 f2 f3 f4
     refine ⟨⟨_,_,μ,run_append_room_src w t tx ty e i ht hi g (q + o) len c b n news hS hc f3 f4,?_,f1,f2⟩⟩
     simp only [VR]
     exact ⟨g,q,c,hm,rfl,hc,fun _=>rfl,by simp⟩
  ·cases hck : (Nat.ble (n * i.bytes) 140737488355328 && Nat.ble n 1000000000) <;> rw [hck] at he
   ·cases he
   simp only [Option.some.injEq,Prod.mk.injEq] at he
   obtain ⟨rfl,rfl⟩:=he
   simp only [Bool.and_eq_true] at hck
   have k2:=Nat.le_of_ble_eq_true hck.1
   have k3:=Nat.le_of_ble_eq_true hck.2
   simp only [VR] at hs; subst hs
   have g1:=run_append_grow_src w t tx ty e i zv ht hi hz none 0 0 [] (run_firstCells_none w.drew i.size 0 0 0) b n news hS (by omega) (by omega) (growslice_fits (by omega) (by simpa using k2))
   obtain ⟨f1,f2⟩:=J5x r (lo:=[]) (olds:=[]) (t:=C.puts l 0 .e) (VRs.nil_iff.2 rfl) hl (Builtin.zeroCells zv.cells (grownCap w (0 + n) 0 e - (0 + n))) e true (fun j hj=>by
    simp only [List.length_nil,Nat.zero_add] at hj
    simpa using W1o l j hj)
   simp only [List.length_nil,Nat.zero_add,hll] at f1 f2
   simp only [Nat.zero_add] at g1
   refine ⟨⟨_,_,_,g1,?_,f1,f2⟩⟩
   simp only [VR]
   refine ⟨w.heap.size,0,_,M.new_same _ _ _ _,rfl,grownCap_ge _ _ _ _,by simp,fun _=>?_⟩
   rw [M.new_cap,size_zeroCells,hzs,hS.newsLen,← Nat.add_mul]
   have:=grownCap_ge w n 0 e
   have : n + (grownCap w n 0 e - n) = grownCap w n 0 e:=by omega
   rw [this]; omega
 ·have:=Nat.eq_of_beq_eq_true hn0; subst this
  simp only at he
  have hl0 : l = []:=G6h hsrc
  subst hl0
  obtain ⟨news,hS,hl,hll⟩:=U6f r hk hx hsrc rfl
  have hnews : news = []:=VRs.nil_iff.1 hl
  subst hnews
  cases s <;> simp only at he <;> try (cases he; done)
  ·rename_i p o len cap ex
   simp only [Option.some.injEq,Prod.mk.injEq] at he
   obtain ⟨rfl,rfl⟩:=he
   have hs':=hs
   simp only [VR] at hs
   obtain ⟨g,q,c,hm,rfl,hlc,hex,hnex⟩:=hs
   exact Runs.same r (run_append_room_src w t tx ty e i ht hi g (q + o) len c b 0 [] hS (by omega) (by simp) (by simp)) hs'
  ·simp only [Option.some.injEq,Prod.mk.injEq] at he
   obtain ⟨rfl,rfl⟩:=he
   have hs':=hs
   simp only [VR] at hs
   obtain ⟨g,q,c,rfl⟩:=hs
   exact Runs.same r (run_append_room_src w t tx ty e i ht hi g q 0 c b 0 [] hS (by omega) (by simp) (by simp)) hs'
  ·simp only [Option.some.injEq,Prod.mk.injEq] at he
   obtain ⟨rfl,rfl⟩:=he
   have hs':=hs
   simp only [VR] at hs; subst hs
   refine Runs.same r (y:=.slice none 0 0) ?_ hs'
   rcases hS.kind with ⟨e',hk'⟩ | hk' <;> simp [Builtin.append_,run_underlying ht,run_underlying hk',sizeOf,typeInfo,hi,hS.len,hS.cells]
end
end Go.X
namespace Go.X
open Go.RowKit
def Q6s (x : V) : Option Nat :=
 match x with
 | .sn=>some 0
 | .se=>some 0
 | .sl _ _ len _ _=>some len
 | .s l=>some l.length
 | _=>none
def srcN (h : H) (size : Nat) (str : Bool) (n : Nat) (x : V) : Option (List V) :=
 Bool.rec (Bool.rec (match x with
  | .sl b o _ _ _=>match h.get b with
    | .cells nb c _=>Bool.rec none (some (C.list c (n * size) o)) (Nat.ble (o + n * size) nb)
    | _=>none
  | _=>none) (match x with
  | .s l=>some ((l.take n).map fun b=>.i .u8 (.ofNat b))
  | _=>none) str) (some []) (Nat.beq n 0)
def cpyV (h : H) (size : Nat) (str : Bool) (d s : V) : Option (V × H) :=
 match Q6s s with
 | none=>none
 | some m=>match d with
  | .sn=>some (.i .i64 (.ofNat 0),h)
  | .se=>some (.i .i64 (.ofNat 0),h)
  | .sl b o len _ _=>Bool.rec (match srcN h size str (Nat.min m len) s with
    | none=>none
    | some l=>match h.get b with
     | .cells nb c z=>Bool.rec none (some (.i .i64 (.ofNat (Nat.min m len)),h.upd b (.cells nb (C.puts l o c) z))) (l.all V.one && Nat.ble (o + Nat.min m len * size) nb)
     | _=>none) (some (.i .i64 (.ofNat 0),h)) (Nat.beq (Nat.min m len) 0)
  | _=>none
section
variable {P : Program} {B : Bs} {μ : M} {h : H} {w : World}
theorem Q6r {x : V} {a : Value} {m : Nat} (hx : VR μ x a) (he : Q6s x = some m) : (Builtin.lenOf a).run P w = .ok m w:=by
 cases x <;> simp only [Q6s] at he <;> try (cases he; done)
 all_goals (simp only [Option.some.injEq] at he; subst he; simp only [VR] at hx)
 ·obtain ⟨s,rfl,rfl⟩:=hx
  rw [J0s]; rfl
 ·obtain ⟨g,q,c,hm,rfl,_⟩:=hx; rfl
 ·obtain ⟨g,q,c,rfl⟩:=hx; rfl
 ·subst hx; rfl
theorem U2o (r : HR B μ h w) {size : Nat} {str : Bool} (hs1 : str = true → size = 1) {x : V} {a : Value} (hx : VR μ x a) {n m : Nat} {l : List V} (hl : Q6s x = some m) (hnm : n ≤ m)
  (he : srcN h size str n x = some l) : ∃ vs : List Value,(Builtin.firstCells size n a).run P w = .ok vs.toArray w ∧ VRs μ l vs ∧ l.length = n * size:=by
 unfold srcN at he
 cases h0 : Nat.beq n 0 <;> rw [h0] at he
 ·simp only at he
  cases str
  ·simp only at he
   cases x <;> simp only at he <;> try (cases he; done)
   rename_i b o len cap ex
   simp only [VR] at hx
   obtain ⟨g,q,c,hm,rfl,hlc,_⟩:=hx
   cases hb : h.get b <;> rw [hb] at he <;> simp only at he <;> try (cases he; done)
   rename_i nb ct z
   cases hle : Nat.ble (o + n * size) nb <;> rw [hle] at he
   ·cases he
   simp only [Option.some.injEq] at he; subst he
   obtain ⟨vs,h1,h2,h3⟩:=r.list hb hm (o:=o) (m:=n * size) (Nat.le_of_ble_eq_true hle)
   exact ⟨vs,run_firstCells_some w size n _ _ _ vs h2 (fun j u hj=>by rw [J0x]; exact h3 j u hj),h1,C.list_length _ _ _⟩
  ·simp only at he
   cases x <;> simp only at he <;> try (cases he; done)
   rename_i s0
   simp only [VR] at hx
   obtain ⟨s,rfl,rfl⟩:=hx
   simp only [Option.some.injEq] at he; subst he
   simp only [Q6s,Option.some.injEq,J0s] at hl
   refine ⟨(byteCells s).take n,?_,?_,?_⟩
   ·simp only [Builtin.firstCells,Sem.run_pure]
    congr 1
    apply Array.ext'
    simp [byteCells,List.map_take]
   ·rw [List.map_take]; exact (J4b s).take n
   ·rw [hs1 rfl]; simp [J0s]; omega
 ·simp only [Option.some.injEq] at he; subst he
  have:=Nat.eq_of_beq_eq_true h0; subst this
  refine ⟨[],?_,VRs.nil_iff.2 rfl,by simp⟩
  cases x <;> simp only [Q6s] at hl <;> try (cases hl; done)
  all_goals simp only [VR] at hx
  ·obtain ⟨s,rfl,rfl⟩:=hx
   simp [Builtin.firstCells]
  ·obtain ⟨g,q,c,hm,rfl,_⟩:=hx
   exact run_firstCells_some w size 0 _ _ _ [] (by simp) (by simp)
  ·obtain ⟨g,q,c,rfl⟩:=hx
   exact run_firstCells_some w size 0 _ _ _ [] (by simp) (by simp)
  ·subst hx; rfl
theorem U7t (r : HR B μ h w) {t tx ty e : TypeId} {i : TypeInfo} {str : Bool} (ht : P.underlying t = some (.slice e)) (hi : P.info? e = some i) (hs1 : str = true → i.size = 1)
  {d s v : V} {h' : H} {a b : Value} (hd : VR μ d a) (hs : VR μ s b) (he : cpyV h i.size str d s = some (v,h')) : Runs P B μ h w (Builtin.copy_ #[t,tx] ty #[a,b]) v h':=by
 unfold cpyV at he
 cases hl : Q6s s <;> rw [hl] at he <;> simp only at he
 ·cases he
 rename_i m
 have hlr : (Builtin.lenOf b).run P w = .ok m w:=Q6r hs hl
 have hz : ∀ (base : Option Addr) (dLen cap : Nat),Nat.min m dLen = 0 → (Builtin.copy_ #[t,tx] ty #[.slice base dLen cap,b]).run P w = .ok (goInt 0) w:=by
  intro base dLen cap h0
  obtain ⟨vs,g1,g2,g3⟩:=U2o (P:=P) r hs1 hs (n:=0) hl (Nat.zero_le _) (l:=[]) (by simp [srcN])
  have : vs = []:=VRs.nil_iff.1 g2
  subst this
  cases base <;> simp [Builtin.copy_,run_underlying ht,hlr,J0w hi,h0,g1,storeCells]
 cases d <;> simp only at he <;> try (cases he; done)
 ·rename_i p o len cap ex
  have hd':=hd
  simp only [VR] at hd
  obtain ⟨g,q,c,hm,rfl,hlc,_⟩:=hd
  cases h0 : Nat.beq (Nat.min m len) 0 <;> rw [h0] at he
  ·simp only at he
   cases hn : srcN h i.size str (Nat.min m len) s <;> rw [hn] at he <;> simp only at he
   ·cases he
   rename_i l
   cases hb : h.get p <;> rw [hb] at he <;> simp only at he <;> try (cases he; done)
   rename_i nb ct z
   cases hck : (l.all V.one && Nat.ble (o + Nat.min m len * i.size) nb) <;> rw [hck] at he
   ·cases he
   simp only [Option.some.injEq,Prod.mk.injEq] at he
   obtain ⟨rfl,rfl⟩:=he
   simp only [Bool.and_eq_true] at hck
   obtain ⟨vs,g1,g2,g3⟩:=U2o (P:=P) r hs1 hs hl (Nat.min_le_left m len) hn
   obtain ⟨⟨f1,f2⟩,f3,f4⟩:=r.over hb hm (k:=o) g2 (by rw [g3]; exact Nat.le_of_ble_eq_true hck.2)
   have hst:=run_storeCells_cells (P:=P) g (q + o) vs 0 w (by simpa using f3) (by simpa using f4) (g2.one hck.1)
   refine ⟨⟨goInt (Nat.min m len),_,μ,?_,by rw [VR.i_iff]; rfl,f1,f2⟩⟩
   simp only [Nat.add_zero] at hst
   simp [Builtin.copy_,run_underlying ht,hlr,J0w hi,g1,hst]
  ·simp only [Option.some.injEq,Prod.mk.injEq] at he
   obtain ⟨rfl,rfl⟩:=he
   exact Runs.same r (hz _ _ _ (Nat.eq_of_beq_eq_true h0)) (by rw [VR.i_iff]; rfl)
 ·simp only [Option.some.injEq,Prod.mk.injEq] at he
  obtain ⟨rfl,rfl⟩:=he
  simp only [VR] at hd
  obtain ⟨g,q,c,rfl⟩:=hd
  exact Runs.same r (hz _ _ _ (Nat.min_zero m)) (by rw [VR.i_iff]; rfl)
 ·simp only [Option.some.injEq,Prod.mk.injEq] at he
  obtain ⟨rfl,rfl⟩:=he
  simp only [VR] at hd; subst hd
  exact Runs.same r (hz _ _ _ (Nat.min_zero m)) (by rw [VR.i_iff]; rfl)
def clrV (h : H) (size : Nat) (zs : List V) (x : V) : Option (V × H) :=
 match x with
 | .sn=>some (.tu [],h)
 | .se=>some (.tu [],h)
 | .sl b o len _ _=>Bool.rec (match h.get b with
   | .cells nb c z=>Bool.rec none (some (.tu [],h.upd b (.cells nb (C.puts (cyc zs len) o c) z))) ((cyc zs len).all V.one && Nat.ble (o + len * size) nb)
   | _=>none) (some (.tu [],h)) (Nat.beq len 0)
 | _=>none
theorem J5g (z : Array Value) (n : Nat) : Builtin.zeroCells z n = madeCells z (n * z.size):=rfl
theorem U3s (zs : List V) (n : Nat) : (cyc zs n).length = n * zs.length:=by
 induction n with
 | zero=>show ([] : List V).length = _; simp
 | succ n ih =>
  show (zs ++ cyc zs n).length = _
  rw [List.length_append,ih,Nat.add_mul]; omega
theorem G3e (r : HR B μ h w) {t ty e : TypeId} {i : TypeInfo} {z : Value} {zs : List V} (ht : P.underlying t = some (.slice e)) (hi : P.info? e = some i) (hz : i.zero = some z) (hs : VRs μ zs z.cells.toList) (hsz : zs.length = i.size)
  {x v : V} {h' : H} {a : Value} (hx : VR μ x a) (he : clrV h i.size zs x = some (v,h')) : Runs P B μ h w (Builtin.clear_ #[t] ty #[a]) v h':=by
 have hu : VR μ (.tu []) (.tuple #[]):=by simp only [VR]; exact ⟨#[],rfl,VRs.nil_iff.2 rfl⟩
 cases x <;> simp only [clrV] at he <;> try (cases he; done)
 ·rename_i p o len cap ex
  simp only [VR] at hx
  obtain ⟨g,q,c,hm,rfl,hlc,_⟩:=hx
  cases h0 : Nat.beq len 0 <;> rw [h0] at he
  ·simp only at he
   have hl0 : len ≠ 0:=by intro e; subst e; cases h0
   cases hb : h.get p <;> rw [hb] at he <;> simp only at he <;> try (cases he; done)
   rename_i nb ct zz
   cases hck : ((cyc zs len).all V.one && Nat.ble (o + len * i.size) nb) <;> rw [hck] at he
   ·cases he
   simp only [Option.some.injEq,Prod.mk.injEq] at he
   obtain ⟨rfl,rfl⟩:=he
   simp only [Bool.and_eq_true] at hck
   have g2:=J4o hs len
   rw [← J5g] at g2
   obtain ⟨⟨f1,f2⟩,f3,f4⟩:=r.over hb hm (k:=o) g2 (by rw [U3s,hsz]; exact Nat.le_of_ble_eq_true hck.2)
   have hst:=run_storeCells_cells (P:=P) g (q + o) (Builtin.zeroCells z.cells len).toList 0 w (by simpa using f3) (by simpa using f4) (g2.one hck.1)
   refine ⟨⟨.tuple #[],_,μ,?_,hu,f1,f2⟩⟩
   simp only [Nat.add_zero] at hst
   simp [Builtin.clear_,run_underlying ht,hst,J3z hi hz]
  ·simp only [Option.some.injEq,Prod.mk.injEq] at he
   obtain ⟨rfl,rfl⟩:=he
   have:=Nat.eq_of_beq_eq_true h0; subst this
   exact Runs.same r (by simp [Builtin.clear_,run_underlying ht]) hu
 ·simp only [Option.some.injEq,Prod.mk.injEq] at he
  obtain ⟨rfl,rfl⟩:=he
  simp only [VR] at hx
  obtain ⟨g,q,c,rfl⟩:=hx
  exact Runs.same r (by simp [Builtin.clear_,run_underlying ht]) hu
 ·simp only [Option.some.injEq,Prod.mk.injEq] at he
  obtain ⟨rfl,rfl⟩:=he
  simp only [VR] at hx; subst hx
  exact Runs.same r (by simp [Builtin.clear_,run_underlying ht]) hu
def byt1 (x : V) : Option Nat :=
 match x with
 | .i k n=>match k with
  | .u8=>match n with
   | .ofNat n=>Bool.rec none (some n) (Nat.ble n 255)
   | _=>none
  | _=>none
 | _=>none
def Q7v (l : List V) : Option (List Nat) :=
 List.rec (motive:=fun _=>Option (List Nat)) (some []) (fun x _ ih=>match byt1 x with | some n=>(match ih with | some l=>some (n::l) | none=>none) | none=>none) l
theorem G3p {x : V} {xs : List V} {l : List Nat} (he : Q7v (x::xs) = some l) : ∃ n l',x = .i .u8 (.ofNat n) ∧ n ≤ 255 ∧ Q7v xs = some l' ∧ l = n::l':=by
 have he2 : (match byt1 x with | some n=>(match Q7v xs with | some l=>some (n::l) | none=>none) | none=>none) = some l:=he
 cases h1 : byt1 x <;> rw [h1] at he2 <;> simp only at he2
 ·cases he2
 rename_i n
 cases hx : Q7v xs <;> rw [hx] at he2 <;> simp only at he2
 ·cases he2
 rename_i l'
 simp only [Option.some.injEq] at he2
 cases x <;> simp only [byt1] at h1 <;> try (cases h1; done)
 rename_i k m
 cases k <;> simp only at h1 <;> try (cases h1; done)
 cases m <;> simp only at h1 <;> try (cases h1; done)
 rename_i m
 cases hb : Nat.ble m 255 <;> rw [hb] at h1
 ·cases h1
 simp only [Option.some.injEq] at h1; subst h1
 exact ⟨m,l',rfl,Nat.le_of_ble_eq_true hb,rfl,he2.symm⟩
theorem U3v : ∀ {xs : List V} {l : List Nat} {vs : List Value},Q7v xs = some l → VRs μ xs vs → vs = l.map (fun (n : Nat)=>Value.int .u8 (n : Int)) ∧ ∀ n ∈ l,n ≤ 255
 | [],l,vs,he,hv=>by
  have : l = []:=by have h2 : some [] = some l:=he; exact (Option.some.inj h2).symm
  subst this
  rw [VRs.nil_iff.1 hv]
  exact ⟨rfl,by simp⟩
 | x::xs,l,vs,he,hv=>by
  obtain ⟨n,l',rfl,h1,h2,rfl⟩:=G3p he
  obtain ⟨y,ys,rfl,h3,h4⟩:=VRs.cons_iff.1 hv
  obtain ⟨h5,h6⟩:=U3v h2 h4
  rw [VR.i_iff] at h3; subst h3
  refine ⟨by rw [h5]; rfl,?_⟩
  intro k hk
  rcases List.mem_cons.1 hk with rfl | hk
  ·exact h1
  ·exact h6 k hk
theorem U7w (s : ByteArray) (b : UInt8) : bytesOf (s.push b) = bytesOf s ++ [b.toNat]:=by
 simp [bytesOf,ByteArray.push]
theorem J8p : ∀ (l : List Nat) (s : ByteArray),(∀ n ∈ l,n ≤ 255) → bytesOf ((l.map fun n=>((n : Nat) : Int)).foldl (fun r n=>r.push (UInt8.ofNat n.toNat)) s) = bytesOf s ++ l
 | [],s,_=>by simp
 | n::l,s,h=>by
  simp only [List.map_cons,List.foldl_cons,Int.toNat_natCast]
  rw [J8p l _ (fun k hk=>h k (by simp [hk])),U7w]
  have : (UInt8.ofNat n).toNat = n:=by
   have:=h n (by simp)
   rw [UInt8.toNat_ofNat']; omega
  rw [this]; simp
def bsV (h : H) (x : V) : Option V :=
 match x with
 | .sn=>some (.s [])
 | .se=>some (.s [])
 | .sl b o len _ _=>Bool.rec (match h.get b with
   | .cells nb c _=>Bool.rec none (match Q7v (C.list c len o) with | some l=>some (.s l) | none=>none) (Nat.ble (o + len) nb)
   | _=>none) (some (.s [])) (Nat.beq len 0)
 | _=>none
theorem G8l (r : HR B μ h w) {x v : V} {a : Value} (hx : VR μ x a) (he : bsV h x = some v) : ∃ z,(Conv.bytesToString a).run P w = .ok z w ∧ VR μ v z:=by
 cases x <;> simp only [bsV] at he <;> try (cases he; done)
 ·rename_i b o len cap ex
  simp only [VR] at hx
  obtain ⟨g,q,c,hm,rfl,hlc,_⟩:=hx
  cases h0 : Nat.beq len 0 <;> rw [h0] at he
  ·simp only at he
   cases hb : h.get b <;> rw [hb] at he <;> simp only at he <;> try (cases he; done)
   rename_i nb ct z
   cases hle : Nat.ble (o + len) nb <;> rw [hle] at he
   ·cases he
   simp only at he
   cases hl : Q7v (C.list ct len o) <;> rw [hl] at he <;> simp only at he
   ·cases he
   rename_i l
   simp only [Option.some.injEq] at he; subst he
   obtain ⟨vs,h1,h2,h3⟩:=r.list hb hm (o:=o) (m:=len) (Nat.le_of_ble_eq_true hle)
   obtain ⟨h4,h5⟩:=U3v hl h1
   have hload:=run_loadCells_list (P:=P) w ⟨g,q + o,none⟩ vs (fun j u hj=>by rw [J0x]; exact h3 j u hj)
   rw [h2,h4] at hload
   have:=run_bytesToString (P:=P) w ⟨g,q + o,none⟩ len c (l.map fun (n : Nat)=>(n : Int)) (by rw [List.map_map]; exact hload)
   refine ⟨_,this,?_⟩
   simp only [VR]
   refine ⟨_,rfl,?_⟩
   rw [J8p l _ h5]; rfl
  ·simp only [Option.some.injEq] at he; subst he
   have:=Nat.eq_of_beq_eq_true h0; subst this
   have hload:=run_loadCells_list (P:=P) w ⟨g,q + o,none⟩ [] (by simp)
   have:=run_bytesToString (P:=P) w ⟨g,q + o,none⟩ 0 c [] (by simpa using hload)
   refine ⟨_,this,?_⟩
   simp only [VR]
   exact ⟨_,rfl,rfl⟩
 ·simp only [Option.some.injEq] at he; subst he
  simp only [VR] at hx
  obtain ⟨g,q,c,rfl⟩:=hx
  have hload:=run_loadCells_list (P:=P) w ⟨g,q,none⟩ [] (by simp)
  have:=run_bytesToString (P:=P) w ⟨g,q,none⟩ 0 c [] (by simpa using hload)
  refine ⟨_,this,?_⟩
  simp only [VR]
  exact ⟨_,rfl,rfl⟩
 ·simp only [Option.some.injEq] at he; subst he
  simp only [VR] at hx; subst hx
  refine ⟨.string .empty,rfl,?_⟩
  simp only [VR]
  exact ⟨_,rfl,rfl⟩
def sbV (h : H) (x : V) : Option (V × H) :=
 match x with
 | .s l=>some (.sl h.next 0 l.length 1 false,h.new (.cells l.length (C.puts (l.map fun b=>.i .u8 (.ofNat b)) 0 .e) false))
 | _=>none
theorem G6n (r : HR B μ h w) {src dst e : TypeId} {x v : V} {h' : H} {a : Value} (hs : P.underlying src = some .string) (hd : P.underlying dst = some (.slice e)) (hu : P.underlying e = some (.int .u8)) (hx : VR μ x a) (he : sbV h x = some (v,h')) :
  Runs P B μ h w (convert src dst a) v h':=by
 cases x <;> simp only [sbV] at he <;> try (cases he; done)
 rename_i l
 simp only [VR] at hx
 obtain ⟨s,rfl,rfl⟩:=hx
 simp only [Option.some.injEq,Prod.mk.injEq] at he
 obtain ⟨rfl,rfl⟩:=he
 have hge:=grownCap_ge w s.size 0 e
 have hbc : (s.data.map fun b=>Value.int .u8 b.toNat) = (byteCells s).toArray:=by apply Array.ext'; simp [byteCells]
 have hcs : (bytesRow s (grownCap w s.size 0 e)).size = grownCap w s.size 0 e:=by rw [bytesRow,hbc]; simp [byteCells_length]; omega
 have hb:=J4b (μ:=μ) s
 obtain ⟨g1,g2⟩:=(r.drew).row (n:=(bytesOf s).length) (N:=(bytesRow s (grownCap w s.size 0 e)).size) (c:=C.puts ((bytesOf s).map fun b=>.i .u8 (.ofNat b)) 0 .e) (z:=false) (cur:=bytesRow s (grownCap w s.size 0 e)) (e:=e)
  (fr:=((bytesRow s (grownCap w s.size 0 e)).size,(bytesRow s (grownCap w s.size 0 e)).size + 1))
  (by rw [J0s,hcs]; exact hge) (Nat.le_refl _) (by simp) (fun i hi=>by simp only; omega) (fun i hi=>by
   obtain ⟨v,e1,e2⟩:=(VRs.tree (vs:=(byteCells s).toArray) (by simpa using hb)) i (by simpa using hi)
   refine ⟨v,?_,e2⟩
   rw [bytesRow,hbc,Array.getElem?_append_left (by have:=(Array.getElem?_eq_some_iff.1 e1).1; exact this)]
   exact e1)
 refine ⟨⟨.slice (some ⟨w.heap.size,0,none⟩) s.size (grownCap w s.size 0 e),_,_,run_bytes_of_string w src dst e s hs hd hu,?_,g1,Ext.drew.trans g2⟩⟩
 simp only [VR]
 refine ⟨w.heap.size,0,grownCap w s.size 0 e,M.new_same _ _ _ _,?_,?_,by simp,fun _=>?_⟩
 ·rw [J0s]
 ·rw [J0s]; exact hge
 ·rw [M.new_cap,hcs]; omega
inductive KY where
 | i (k : IntKind) | s | e (ek : EK)
def U0g (kd : KY) (h : H) (a b : V) : Option Bool :=
 match kd with
 | .i k=>match a with
  | .i k1 n=>match b with
   | .i k2 m=>Bool.rec none (Bool.rec none (some (eqI n m)) (Nat.beq (kno k2) (kno k))) (Nat.beq (kno k1) (kno k))
   | _=>none
  | _=>none
 | .s=>match a with
  | .s l=>match b with | .s l'=>some (eqL l l') | _=>none
  | _=>none
 | .e ek=>eqV ek h a b
def J5m (kd : KY) (a : V) : Bool :=
 match kd with
 | .i k=>match a with | .i k1 _=>Nat.beq (kno k1) (kno k) | _=>false
 | .s=>match a with | .s _=>true | _=>false
 | .e ek=>match a with
  | .ag l=>match ek with | .arr n=>Nat.beq l.length n | .kt ks=>Nat.beq l.length ks.length | _=>false
  | _=>false
def U5b (kd : KY) (h : H) (a : V) (es : List (V × V)) : Nat → Option (Option (Nat × V)) :=
 List.rec (motive:=fun _=>Nat → Option (Option (Nat × V))) (fun _=>some none)
  (fun e _ ih i=>match U0g kd h a e.1 with
   | some b=>Bool.rec (ih (i + 1)) (some (some (i,e.2))) b
   | none=>none) es
def G8t (P : Program) (t : TypeId) : KY → Prop
 | .i k=>P.underlying t = some (.int k)
 | .s=>P.underlying t = some .string
 | .e ek=>EKok P t ek ∧ match ek with | .arr _=>True | .kt _=>True | _=>False
theorem U1a {a b : ByteArray} (h : bytesOf a = bytesOf b) : a = b:=by
 unfold bytesOf at h
 have h2 : a.data.toList = b.data.toList:=by
  have:=List.map_inj_right (f:=fun x : UInt8=>x.toNat) (fun x y e=>UInt8.toNat_inj.1 e) |>.1 h
  exact this
 exact ByteArray.ext (Array.ext' h2)
def Q6q : V → Bool
 | .i _ _=>true
 | .s _=>true
 | _=>false
theorem U6z {a : V} (ha : Q6q a = true) {x y : Value} (hx : VR μ a x) (hy : VR μ a y) : x = y:=by
 cases a <;> simp only [Q6q] at ha <;> try (cases ha; done)
 ·simp only [VR] at hx hy
  obtain ⟨s,rfl,e1⟩:=hx
  obtain ⟨s',rfl,e2⟩:=hy
  rw [U1a (e1.trans e2.symm)]
 ·rw [VR.i_iff] at hx hy; rw [hx,hy]
theorem U3d : ∀ {l : List V},(∀ a ∈ l,Q6q a = true) → ∀ {xs ys : List Value},VRs μ l xs → VRs μ l ys → xs = ys
 | [],_,xs,ys,hx,hy=>by rw [VRs.nil_iff.1 hx,VRs.nil_iff.1 hy]
 | a::l,h,xs,ys,hx,hy=>by
  obtain ⟨x,xs,rfl,h1,h2⟩:=VRs.cons_iff.1 hx
  obtain ⟨y,ys,rfl,h3,h4⟩:=VRs.cons_iff.1 hy
  rw [U6z (h a (by simp)) h1 h3,U3d (fun b hb=>h b (by simp [hb])) h2 h4]
theorem U7n : ∀ {l l' : List V},U8z l l' = some true → l = l' ∧ ∀ a ∈ l,Q6q a = true
 | [],[],_=>⟨rfl,by simp⟩
 | [],_::_,h=>by cases h
 | _::_,[],h=>by cases h
 | a::l,b::l',h=>by
  have he2 : W5t a b (U8z l l') = some true:=h
  cases a <;> simp only [W5t] at he2 <;> try (cases he2; done)
  cases b <;> simp only at he2 <;> try (cases he2; done)
  rename_i k1 m k2 n
  cases hk : Nat.beq (kno k1) (kno k2) <;> rw [hk] at he2
  ·cases he2
  have:=J1c (Nat.eq_of_beq_eq_true hk); subst this
  cases hm : eqI m n <;> rw [hm] at he2
  ·cases he2
  obtain ⟨e1,e2⟩:=U7n he2
  rw [J1x] at hm
  have hmn : m = n:=by simpa using hm
  subst hmn
  refine ⟨by rw [e1],fun a ha=>?_⟩
  rcases List.mem_cons.1 ha with rfl | ha
  ·rfl
  ·exact e2 a ha
theorem U0r : ∀ {ks : List Bool} {l l' : List V},Q2x ks l l' = some true → l = l' ∧ ∀ a ∈ l,Q6q a = true
 | [],l,l',h=>by
  cases l with
  | nil=>cases l' with
   | nil=>exact ⟨rfl,by simp⟩
   | cons b l'=>cases h
  | cons a l=>cases h
 | k::ks,[],l',h=>by cases h
 | k::ks,a::l,[],h=>by cases h
 | k::ks,a::l,b::l',h=>by
  cases k with
  | false =>
   have he2 : W5t a b (Q2x ks l l') = some true:=h
   cases a <;> simp only [W5t] at he2 <;> try (cases he2; done)
   cases b <;> simp only at he2 <;> try (cases he2; done)
   rename_i k1 m k2 n
   cases hk : Nat.beq (kno k1) (kno k2) <;> rw [hk] at he2
   ·cases he2
   have:=J1c (Nat.eq_of_beq_eq_true hk); subst this
   cases hm : eqI m n <;> rw [hm] at he2
   ·cases he2
   obtain ⟨e1,e2⟩:=U0r he2
   rw [J1x] at hm
   have hmn : m = n:=by simpa using hm
   subst hmn
   refine ⟨by rw [e1],fun a ha=>?_⟩
   rcases List.mem_cons.1 ha with rfl | ha
   ·rfl
   ·exact e2 a ha
  | true =>
   have he2 : eqS2 a b (Q2x ks l l') = some true:=h
   cases a <;> simp only [eqS2] at he2 <;> try (cases he2; done)
   cases b <;> simp only at he2 <;> try (cases he2; done)
   rename_i m n
   cases hm : eqL m n <;> rw [hm] at he2
   ·cases he2
   obtain ⟨e1,e2⟩:=U0r he2
   have hmn:=(J1v _ _).1 hm
   subst hmn
   refine ⟨by rw [e1],fun a ha=>?_⟩
   rcases List.mem_cons.1 ha with rfl | ha
   ·rfl
   ·exact e2 a ha
theorem W1j {n : Nat} (s : ByteArray) : Instr.sameBits n (.string s) (.string s) = true:=by
 exact MapKept.sameBits_self (d:=.string) (by simp [MapKept.IsKey]) n
theorem W4j {kd : KY} {t : TypeId} (hk : G8t P t kd) {a b : V} (he : U0g kd h a b = some true) {x y : Value} (hx : VR μ a x) (hy : VR μ b y) : x = y ∧ Instr.sameBits 10000 x x = true:=by
 cases kd with
 | i k =>
  cases a <;> simp only [U0g] at he <;> try (cases he; done)
  cases b <;> simp only at he <;> try (cases he; done)
  rename_i k1 n k2 m
  cases h1 : Nat.beq (kno k1) (kno k) <;> rw [h1] at he
  ·cases he
  cases h2 : Nat.beq (kno k2) (kno k) <;> rw [h2] at he
  ·cases he
  have e1:=J1c (Nat.eq_of_beq_eq_true h1)
  have e2:=J1c (Nat.eq_of_beq_eq_true h2)
  subst e1; subst e2
  simp only [Option.some.injEq] at he
  rw [J1x] at he
  have hmn : n = m:=by simpa using he
  subst hmn
  rw [VR.i_iff] at hx hy
  subst hx; subst hy
  exact ⟨rfl,by simp [Instr.sameBits]⟩
 | s =>
  cases a <;> simp only [U0g] at he <;> try (cases he; done)
  cases b <;> simp only at he <;> try (cases he; done)
  rename_i m n
  simp only [Option.some.injEq] at he
  have hmn:=(J1v _ _).1 he
  subst hmn
  have e:=U6z rfl hx hy
  subst e
  simp only [VR] at hx
  obtain ⟨s,rfl,_⟩:=hx
  exact ⟨rfl,W1j s⟩
 | e ek =>
  have main : ∀ l l',a = .ag l → b = .ag l' → l = l' → (∀ z ∈ l,Q6q z = true) → x = y ∧ Instr.sameBits 10000 x x = true:=by
   rintro l l' rfl rfl rfl hl
   simp only [VR] at hx hy
   obtain ⟨xs,rfl,hx⟩:=hx
   obtain ⟨ys,rfl,hy⟩:=hy
   have e:=U3d hl hx hy
   have e2 : xs = ys:=Array.ext' e
   subst e2
   refine ⟨rfl,?_⟩
   simp only [Instr.sameBits,Bool.and_eq_true,beq_self_eq_true,true_and,List.all_eq_true]
   rintro ⟨p,q⟩ hpq
   obtain ⟨i,hi⟩:=List.mem_iff_getElem?.1 hpq
   rw [List.getElem?_zip_eq_some] at hi
   have : p = q:=Option.some.inj (hi.1.symm.trans hi.2)
   subst this
   have hlen:=hx.len
   have hil : i < l.length:=by rw [← hlen]; exact (List.getElem?_eq_some_iff.1 hi.1).1
   obtain ⟨p',hp1,hp2⟩:=hx.get i _ (List.getElem?_eq_getElem hil)
   rw [hi.1] at hp1; cases hp1
   have hlit:=hl _ (List.getElem_mem hil)
   generalize l[i] = z at hp2 hlit
   cases z <;> simp only [Q6q] at hlit <;> try (cases hlit; done)
   ·simp only [VR] at hp2
    obtain ⟨s,rfl,_⟩:=hp2
    exact W1j s
   ·rw [VR.i_iff] at hp2; subst hp2
    simp [Instr.sameBits]
  obtain ⟨_,h2⟩:=hk
  cases ek <;> simp only at h2 <;> try (exact absurd h2 not_false; done)
  ·simp only [U0g] at he
   cases a <;> simp only [eqV] at he <;> try (cases he; done)
   cases b <;> simp only at he <;> try (cases he; done)
   rename_i l l'
   have h3 : ∃ b : Bool,(Bool.rec none (U8z l l') b : Option Bool) = some true:=⟨_,he⟩
   obtain ⟨b,h3⟩:=h3
   cases b
   ·cases h3
   obtain ⟨e1,e2⟩:=U7n h3
   exact main _ _ rfl rfl e1 e2
  ·simp only [U0g] at he
   cases a <;> simp only [eqV] at he <;> try (cases he; done)
   cases b <;> simp only at he <;> try (cases he; done)
   obtain ⟨e1,e2⟩:=U0r he
   exact main _ _ rfl rfl e1 e2
theorem J8a {kd : KY} {t : TypeId} (hk : G8t P t kd) {a : V} (hf : J5m kd a = true) {x : Value} (hx : VR μ a x) (em : Bool) : (Instr.checkKey em 10000 t x).run P w = .ok () w:=by
 cases kd with
 | i k =>
  cases a <;> simp only [J5m] at hf <;> try (cases hf; done)
  rw [VR.i_iff] at hx; subst hx
  rename_i k1 n
  have:=J1c (Nat.eq_of_beq_eq_true hf); subst this
  exact MapKept.run_checkKey (d:=.int k1) hk (by simp [MapKept.IsKey]) em 9999
 | s =>
  cases a <;> simp only [J5m] at hf <;> try (cases hf; done)
  simp only [VR] at hx
  obtain ⟨s,rfl,_⟩:=hx
  exact MapKept.run_checkKey (d:=.string) hk (by simp [MapKept.IsKey]) em 9999
 | e ek =>
  obtain ⟨h1,h2⟩:=hk
  cases a <;> simp only [J5m] at hf <;> try (cases hf; done)
  rename_i l
  simp only [VR] at hx
  obtain ⟨xs,rfl,hx⟩:=hx
  have hlen : xs.size = l.length:=by have:=hx.len; simpa using this
  cases ek <;> simp only at hf <;> try (cases hf; done)
  ·rename_i n
   have hln:=Nat.eq_of_beq_eq_true hf
   obtain ⟨e,ei,k,hu,hi,hs,hue⟩:=h1
   show (Instr.checkKey em (9999 + 1) t (.agg xs)).run P w = .ok () w
   rw [Instr.checkKey]
   simp only [Sem.run_bind,run_underlying hu,Result.andThen_ok]
   simp only [Std.Legacy.Range.forIn_eq_forIn_range',Std.Legacy.Range.size,Nat.sub_zero,Nat.add_one_sub_one,Nat.div_one]
   have each : ∀ j ∈ List.range' 0 n,j < xs.size:=fun j hj=>by have:=List.mem_range'_1.1 hj; omega
   generalize List.range' 0 n = is at each
   induction is with
   | nil=>simp
   | cons j is ih =>
    have hj:=each j (by simp)
    have g1 : xs[j]? = some xs[j]:=Array.getElem?_eq_getElem hj
    have p1 : (part e xs (j * 1)).run P w = .ok xs[j] w:=by simp [part,isAgg,run_underlying hue,g1]
    have p2 : (Instr.checkKey em 9999 e xs[j]).run P w = .ok () w:=by
     show (Instr.checkKey em (9998 + 1) e xs[j]).run P w = .ok () w
     rw [Instr.checkKey]
     simp only [Sem.run_bind,run_underlying hue,Result.andThen_ok]
     cases xs[j] <;> rfl
    simp only [List.forIn_cons,Sem.run_bind,J0w hi,Result.andThen_ok,hs,p1,p2,Sem.run_pure]
    exact ih (fun y hy=>each y (by simp [hy]))
  ·rename_i ks
   have hln:=Nat.eq_of_beq_eq_true hf
   obtain ⟨⟨fs,hu,hsz,hfs⟩,_⟩:=h1
   show (Instr.checkKey em (9999 + 1) t (.agg xs)).run P w = .ok () w
   rw [Instr.checkKey]
   simp only [Sem.run_bind,run_underlying hu,Result.andThen_ok]
   rw [← Array.forIn_toList]
   have each : ∀ f ∈ fs.toList, f.name ≠ "_" ∧ f.offset < xs.size ∧ ((∃ k, P.underlying f.type = some (.int k)) ∨ P.underlying f.type = some .string) := fun f hf => by
    obtain ⟨j,hj⟩:=List.mem_iff_getElem?.1 hf
    have hj2 : fs[j]? = some f:=by simpa using hj
    obtain ⟨q1,q2,q3,q4⟩:=hfs j f hj2
    have hjl : j < ks.length:=by have:=(Array.getElem?_eq_some_iff.1 hj2).1; omega
    refine ⟨q2,by omega,?_⟩
    cases hkj : ks[j]? with
    | none=>rw [List.getElem?_eq_none_iff] at hkj; omega
    | some b=>cases b with
     | false=>exact .inl (q3 hkj)
     | true=>exact .inr (q4 hkj)
   generalize fs.toList = L at each
   induction L with
   | nil=>simp
   | cons f L ih =>
    obtain ⟨hn,ho,ht⟩:=each f (by simp)
    have g1 : xs[f.offset]? = some xs[f.offset]:=Array.getElem?_eq_getElem ho
    have p1 : (part f.type xs f.offset).run P w = .ok xs[f.offset] w:=by rcases ht with ⟨k,ht⟩ | ht <;> simp [part,isAgg,run_underlying ht,g1]
    have p2 : (Instr.checkKey em 9999 f.type xs[f.offset]).run P w = .ok () w:=by
     show (Instr.checkKey em (9998 + 1) f.type xs[f.offset]).run P w = .ok () w
     rw [Instr.checkKey]
     rcases ht with ⟨k,ht⟩ | ht
     ·simp only [Sem.run_bind,run_underlying ht,Result.andThen_ok]
      cases xs[f.offset] <;> rfl
     ·simp only [Sem.run_bind,run_underlying ht,Result.andThen_ok]
      cases xs[f.offset] <;> rfl
    simp only [List.forIn_cons,Sem.run_bind,hn,ne_eq,not_false_eq_true,if_true,Result.andThen_ok,p1,p2,Sem.run_pure]
    exact ih (fun y hy=>each y (by simp [hy]))
def FindsAt (P : Program) (w : World) (t : TypeId) (x : Value) (ms : List MapEntry) (i : Nat) (y : Option (Nat × Value)) : KY → Prop
 | .e _=>(Instr.findAsking t x ms i).run P w = .ok y w
 | .i k=>Instr.findNow (.int k) x ms i = some y
 | .s=>Instr.findNow .string x ms i = some y
def J4q (P : Program) (w : World) (t : TypeId) (x y : Value) (b : Bool) : KY → Prop
 | .e _=>(Op.equal t x y).run P w = .ok b w
 | .i k=>Instr.sameNow (.int k) x y = some b
 | .s=>Instr.sameNow .string x y = some b
theorem FindsAt.step {t : TypeId} {x : Value} {e : MapEntry} {ms : List MapEntry} {i : Nat} : ∀ {kd : KY} {y : Option (Nat × Value)},J4q P w t x e.key false kd → FindsAt P w t x ms (i + 1) y kd → FindsAt P w t x (e::ms) i y kd
 | .i k,y,h1,h2=>by unfold J4q at h1; unfold FindsAt at h2 ⊢; simp only [Instr.findNow,h1]; exact h2
 | .s,y,h1,h2=>by unfold J4q at h1; unfold FindsAt at h2 ⊢; simp only [Instr.findNow,h1]; exact h2
 | .e ek,y,h1,h2=>by unfold J4q at h1; unfold FindsAt at h2 ⊢; simp only [Instr.findAsking,Sem.run_bind,h1,Result.andThen_ok]; exact h2
theorem FindsAt.hit {t : TypeId} {x : Value} {e : MapEntry} {ms : List MapEntry} {i : Nat} : ∀ {kd : KY},J4q P w t x e.key true kd → FindsAt P w t x (e::ms) i (some (i,e.val)) kd
 | .i k,h1=>by unfold J4q at h1; unfold FindsAt; simp only [Instr.findNow,h1]
 | .s,h1=>by unfold J4q at h1; unfold FindsAt; simp only [Instr.findNow,h1]
 | .e ek,h1=>by unfold J4q at h1; unfold FindsAt; simp only [Instr.findAsking,Sem.run_bind,h1,Result.andThen_ok]; rfl
theorem G7p {kd : KY} {t : TypeId} (hk : G8t P t kd) (r : HR B μ h w) {a b : V} {x y : Value} {v : Bool} (hx : VR μ a x) (hy : VR μ b y) (hq : U0g kd h a b = some v) : J4q P w t x y v kd:=by
 cases kd with
 | i k =>
  cases a <;> simp only [U0g] at hq <;> try (cases hq; done)
  cases b <;> simp only at hq <;> try (cases hq; done)
  rename_i k1 n k2 m
  cases g1 : Nat.beq (kno k1) (kno k) <;> rw [g1] at hq
  ·cases hq
  cases g2 : Nat.beq (kno k2) (kno k) <;> rw [g2] at hq
  ·cases hq
  have e1:=J1c (Nat.eq_of_beq_eq_true g1)
  have e2:=J1c (Nat.eq_of_beq_eq_true g2)
  subst e1; subst e2
  simp only [Option.some.injEq] at hq
  rw [VR.i_iff] at hx hy
  subst hx; subst hy
  unfold J4q
  rw [← hq,J1x]
  simp [Instr.sameNow]
 | s =>
  cases a <;> simp only [U0g] at hq <;> try (cases hq; done)
  cases b <;> simp only at hq <;> try (cases hq; done)
  simp only [Option.some.injEq] at hq
  simp only [VR] at hx hy
  obtain ⟨s1,rfl,rfl⟩:=hx
  obtain ⟨s2,rfl,rfl⟩:=hy
  unfold J4q
  rw [← hq]
  show some (s1 == s2) = some (eqL (bytesOf s1) (bytesOf s2))
  congr 1
  cases hb : eqL (bytesOf s1) (bytesOf s2) with
  | true =>
   have:=U1a ((J1v _ _).1 hb)
   subst this
   exact MapKept.sameBits_self (d:=.string) (k:=.string s1) (by simp [MapKept.IsKey]) 1
  | false =>
   cases hb2 : (s1 == s2) with
   | false=>rfl
   | true =>
    obtain ⟨_,hs,hiff⟩:=MapKept.sameNow_of_keys (d:=.string) (a:=.string s1) (b:=.string s2) (by simp [MapKept.IsKey]) (by simp [MapKept.IsKey])
    have e1 : (some (s1 == s2) : Option Bool) = some _:=hs
    rw [hb2] at e1
    cases e1
    have:=hiff.1 rfl
    cases this
    rw [(J1v _ _).2 rfl] at hb
    cases hb
 | e ek=>exact W2m r hk.1 hx hy hq
theorem U3i {kd : KY} {t : TypeId} (hk : G8t P t kd) (r : HR B μ h w) {a : V} {x : Value} (hx : VR μ a x) : ∀ {es : List (V × V)} {ms : List MapEntry} {i : Nat} {res : Option (Nat × V)},ER μ es ms → U5b kd h a es i = some res →
  match res with
  | none=>FindsAt P w t x ms i none kd
  | some (j,y)=>∃ v e,FindsAt P w t x ms i (some (j,v)) kd ∧ VR μ y v ∧ i ≤ j ∧ j < i + ms.length ∧ ms[j - i]? = some e ∧ e.key = x ∧ Instr.sameBits 10000 x x = true
 | [],ms,i,res,hr,he=>by
  have : ms = []:=hr
  subst this
  have he2 : some none = some res:=he
  cases he2
  cases kd <;> rfl
 | z::es,ms,i,res,hr,he=>by
  obtain ⟨e,es',rfl,h1,h2,h3⟩:=hr
  have he2 : (match U0g kd h a z.1 with
   | some b=>Bool.rec (U5b kd h a es (i + 1)) (some (some (i,z.2))) b
   | none=>none) = some res:=he
  cases hq : U0g kd h a z.1 <;> rw [hq] at he2 <;> simp only at he2
  ·cases he2
  rename_i b
  have hstep:=G7p hk r hx h1 hq
  cases b
  ·simp only at he2
   have ih:=U3i hk r hx h3 he2
   cases res with
   | none=>exact FindsAt.step hstep ih
   | some jx =>
    obtain ⟨j,xx⟩:=jx
    obtain ⟨v,e',g1,g2,g3,g4,g5,g6⟩:=ih
    refine ⟨v,e',FindsAt.step hstep g1,g2,by omega,by simp only [List.length_cons]; omega,?_,g6⟩
    rw [show j - i = (j - (i + 1)) + 1 by omega,List.getElem?_cons_succ]; exact g5
  ·simp only [Option.some.injEq] at he2; subst he2
   obtain ⟨k1,k2⟩:=W4j hk hq hx h1
   exact ⟨e.val,e,FindsAt.hit hstep,h2,Nat.le_refl _,by simp,by simp,k1.symm,k2⟩
theorem J5y {kd : KY} {t : TypeId} (hk : G8t P t kd) (r : HR B μ h w) {a : V} {x : Value} (hx : VR μ a x) {es : List (V × V)} {ms : List MapEntry} {res : Option (Nat × V)} (hr : ER μ es ms) (he : U5b kd h a es 0 = some res) :
  match res with
  | none=>(Instr.findKey t x ms).run P w = .ok none w
  | some (j,y)=>∃ v e,(Instr.findKey t x ms).run P w = .ok (some (j,v)) w ∧ VR μ y v ∧ j < ms.length ∧ ms[j]? = some e ∧ e.key = x ∧ (Instr.keyThatStays x x).run P w = .ok x w:=by
 have h0:=U3i hk r hx hr he
 have hrun : ∀ y,FindsAt P w t x ms 0 y kd → (Instr.findKey t x ms).run P w = .ok y w:=by
  intro y hy
  cases kd with
  | i k=>exact MapKept.run_findKey hk hy
  | s=>exact MapKept.run_findKey hk hy
  | e ek =>
   have hw : (match P.underlying t with | some (.array _ _) | some (.struct _)=>true | _=>false) = true:=by
    obtain ⟨g1,g2⟩:=hk
    cases ek <;> simp only at g2 <;> try (exact absurd g2 not_false; done)
    ·obtain ⟨e,i,k,g3,_⟩:=g1; simp [g3]
    ·obtain ⟨⟨fs,g3,_⟩,_⟩:=g1; simp [g3]
   rw [run_findKey_eq w hw]
   exact hy
 cases res with
 | none=>exact hrun none h0
 | some jx =>
  obtain ⟨j,xx⟩:=jx
  obtain ⟨v,e',g1,g2,g3,g4,g5,g6,g7⟩:=h0
  exact ⟨v,e',hrun _ g1,g2,by omega,g5,g6,by simp [Instr.keyThatStays,g7]⟩
end
def apzV (h : H) (size bytes : Nat) (zs : List V) (s x : V) : Option (V × H) :=
 match s with
 | .sn=>match x with
  | .i _ n=>match n with
   | .ofNat n=>Bool.rec (Bool.rec none (some (.sl h.next 0 n size false,h.new (.cells (n * size) (mksT zs (n * size) n) true))) (Nat.ble 1 size && (Nat.ble n 1000000000 && Nat.ble (n * bytes) 140737488355328))) (some (.sn,h)) (Nat.beq n 0)
   | _=>none
  | _=>none
 | _=>none
section
variable {P : Program} {B : Bs} {μ : M} {h : H} {w : World}
theorem J9q {t tx ty e : TypeId} {i : TypeInfo} {z : Value} {kk k : IntKind} (ht : P.underlying t = some (.slice e)) (hx : P.underlying tx = some (.int kk)) (hi : P.info? e = some i) (hz : i.zero = some z) (n : Nat) (hn : 0 < n) (hs : 0 < i.size)
  (h1 : n ≤ 1000000000) (h2 : n * i.bytes ≤ 140737488355328) :
  (Builtin.append_ #[t,tx] ty #[.slice none 0 0,.int k (n : Int)]).run P w =
   .ok (.slice (some ⟨w.heap.size,0,none⟩) n (grownCap w n 0 e)) (w.drew.alloc (.cells (Builtin.zeroCells z.cells n ++ Builtin.zeroCells z.cells (grownCap w n 0 e - n)) e)):=by
 have hwrap : IntKind.i64.wrap (n : Int) = (n : Int):=by
  simp [IntKind.wrap,IntKind.bits,IntKind.signed]; omega
 have h3 : ¬ ((n : Int) < 0):=by omega
 have h4 : ¬ ((281474976710656 : Int) < (n : Int) * (i.bytes : Int)):=by
  have : ((n * i.bytes : Nat) : Int) ≤ 140737488355328:=by omega
  rw [Int.natCast_mul] at this; omega
 have hn0 : ¬ (n = 0):=by omega
 have hfit : Builtin.nextslicecap n 0 * i.bytes ≤ 281474976710656:=by
  have : Builtin.nextslicecap n 0 = n:=by unfold Builtin.nextslicecap; rw [if_pos (by omega)]
  rw [this]; omega
 have h48' : ¬ (281474976710656 < Builtin.nextslicecap n 0 * i.bytes):=by omega
 have h63 : ¬ ((9223372036854775807 : Int) < (n : Int)):=by omega
 have hmax : max (n : Int) 0 = (n : Int):=by omega
 have htn : ((n : Int)).toNat = n:=by omega
 simp [Builtin.append_,run_underlying ht,run_underlying hx,sizeOf,typeInfo,zeroValue,hi,hz,asInt,asIntOf,hmax,htn,hwrap,h3,h4,hn0,h48',h63,Question.forced,newRow,grownCap,Builtin.firstCells]
 intro hx0
 exact absurd hx0 (by have:=Nat.mul_pos hn hs; omega)
theorem J8r {t tx ty e : TypeId} {i : TypeInfo} {kk k : IntKind} (ht : P.underlying t = some (.slice e)) (hx : P.underlying tx = some (.int kk)) (hi : P.info? e = some i) :
  (Builtin.append_ #[t,tx] ty #[.slice none 0 0,.int k 0]).run P w = .ok (.slice none 0 0) w:=by
 have hwrap : IntKind.i64.wrap 0 = 0:=by decide
 simp [Builtin.append_,run_underlying ht,run_underlying hx,sizeOf,typeInfo,hi,asInt,asIntOf,hwrap]
theorem W7g (z : Array Value) (n : Nat) : (Builtin.zeroCells z n).size = n * z.size:=by simp [Builtin.zeroCells]
theorem G3z (r : HR B μ h w) {t tx ty e : TypeId} {i : TypeInfo} {z : Value} {kk : IntKind} {zs : List V} (ht : P.underlying t = some (.slice e)) (hx : P.underlying tx = some (.int kk)) (hi : P.info? e = some i) (hz : i.zero = some z)
  (hzs : VRs μ zs z.cells.toList) (hsz : zs.length = i.size) {s x v : V} {h' : H} {a b : Value} (hs : VR μ s a) (hxv : VR μ x b) (he : apzV h i.size i.bytes zs s x = some (v,h')) :
  Runs P B μ h w (Builtin.append_ #[t,tx] ty #[a,b]) v h':=by
 cases s <;> simp only [apzV] at he <;> try (cases he; done)
 simp only [VR] at hs; subst hs
 cases x <;> simp only at he <;> try (cases he; done)
 rename_i k n
 rw [VR.i_iff] at hxv; subst hxv
 cases n <;> simp only at he <;> try (cases he; done)
 rename_i n
 cases h0 : Nat.beq n 0 <;> rw [h0] at he
 ·simp only at he
  have hn : 0 < n:=by cases n with | zero=>cases h0 | succ n=>omega
  cases hck : (Nat.ble 1 i.size && (Nat.ble n 1000000000 && Nat.ble (n * i.bytes) 140737488355328)) <;> rw [hck] at he
  ·cases he
  simp only [Option.some.injEq,Prod.mk.injEq] at he
  obtain ⟨rfl,rfl⟩:=he
  simp only [Bool.and_eq_true] at hck
  have k1:=Nat.le_of_ble_eq_true hck.1
  have k2:=Nat.le_of_ble_eq_true hck.2.1
  have k3:=Nat.le_of_ble_eq_true hck.2.2
  have hge:=grownCap_ge w n 0 e
  have hzl : z.cells.size = i.size:=by have:=hzs.len; simp at this; omega
  have hcy : VRs μ (cyc zs n) (Builtin.zeroCells z.cells n).toList:=by rw [J5g]; exact J4o hzs n
  have hlen : (cyc zs n).length = n * i.size:=by rw [U3s,hsz]
  have hsize : (Builtin.zeroCells z.cells n ++ Builtin.zeroCells z.cells (grownCap w n 0 e - n)).size = grownCap w n 0 e * i.size:=by
   rw [Array.size_append,W7g,W7g,hzl,← Nat.add_mul]; congr 1; omega
  obtain ⟨g1,g2⟩:=(r.drew).row (n:=n * i.size) (N:=grownCap w n 0 e * i.size) (c:=mksT zs (n * i.size) n) (z:=true) (cur:=Builtin.zeroCells z.cells n ++ Builtin.zeroCells z.cells (grownCap w n 0 e - n)) (e:=e) (fr:=(0,0))
   (Nat.mul_le_mul_right _ hge) (by rw [hsize]; exact Nat.le_refl _) (fun _=>rfl) (fun i hi=>by simp only; omega) (fun j hj=>by
    obtain ⟨v,e1,e2⟩:=U3a (μ:=μ) (zs:=zs) (n:=n * i.size) (c:=n) hcy hlen j hj
    refine ⟨v,?_,e2⟩
    rw [Array.getElem?_append_left (by have:=(Array.getElem?_eq_some_iff.1 e1).1; exact this)]
    exact e1)
  refine ⟨⟨_,_,_,J9q ht hx hi hz n hn (by omega) k2 k3,?_,g1,Ext.drew.trans g2⟩⟩
  simp only [VR]
  refine ⟨w.heap.size,0,_,M.new_same _ _ _ _,rfl,hge,by simp,fun _=>?_⟩
  show 0 + _ ≤ (M.new μ h.next (w.heap.size,0) _).cap h.next
  rw [M.new_cap]; omega
 ·simp only [Option.some.injEq,Prod.mk.injEq] at he
  obtain ⟨rfl,rfl⟩:=he
  have:=Nat.eq_of_beq_eq_true h0; subst this
  exact Runs.same r (J8r ht hx hi) (by simp only [VR])
end
end Go.X
namespace Go.X
open Go.RowKit Go.MapKept
def entV (h : H) (x : V) : Option (List (V × V)) :=
 match x with
 | .mn=>some []
 | .m r=>match h.get r with | .map es _ _=>some es | _=>none
 | _=>none
def lkV (h : H) (kd : KY) (ok : Bool) (zero x ix : V) : Option V :=
 Bool.rec none (match entV h x with
  | some es=>match U5b kd h ix es 0 with
   | some (some (_,v))=>some (Bool.rec v (.tu [v,.b true]) ok)
   | some none=>some (Bool.rec zero (.tu [zero,.b false]) ok)
   | none=>none
  | none=>none) (J5m kd ix)
def muV (h : H) (kd : KY) (x ix v : V) : Option H :=
 Bool.rec none (match x with
  | .m r=>match h.get r with
   | .map es bs cl=>match U5b kd h ix es 0 with
    | some (some (j,_))=>some (h.upd r (.map (es.modify j fun e=>(e.1,v)) bs cl))
    | some none=>some (h.upd r (.map (es ++ [(ix,v)]) (bs ++ [cl]) (Nat.add cl 1)))
    | none=>none
   | _=>none
  | _=>none) (J5m kd ix)
def delV (h : H) (kd : KY) (x ix : V) : Option H :=
 Bool.rec none (match x with
  | .mn=>some h
  | .m r=>match h.get r with
   | .map es bs cl=>match U5b kd h ix es 0 with
    | some (some (j,_))=>some (h.upd r (.map (es.eraseIdx j) (bs.eraseIdx j) cl))
    | some none=>some h
    | none=>none
   | _=>none
  | _=>none) (J5m kd ix)
section
variable {P : Program} {B : Bs} {μ : M} {h : H} {w : World}
theorem ER.len : ∀ {es : List (V × V)} {ms : List MapEntry},ER μ es ms → ms.length = es.length
 | [],_,h=>by have : _ = []:=h; rw [this]; rfl
 | _::_,_,⟨e,es',h1,_,_,h2⟩=>by rw [h1]; simp [ER.len h2]
theorem ER.get : ∀ {es : List (V × V)} {ms : List MapEntry},ER μ es ms → ∀ (j : Nat) (x : V × V),es[j]? = some x → ∃ e,ms[j]? = some e ∧ VR μ x.1 e.key ∧ VR μ x.2 e.val
 | [],_,_,j,x,hj=>by simp at hj
 | y::ys,_,⟨e,es',h1,h2,h3,h4⟩,j,x,hj=>by
  subst h1
  cases j with
  | zero=>simp at hj; subst hj; exact ⟨e,rfl,h2,h3⟩
  | succ j=>simp only [List.getElem?_cons_succ] at hj ⊢; exact ER.get h4 j x hj
theorem ER.of_get : ∀ {es : List (V × V)} {ms : List MapEntry},ms.length = es.length → (∀ (j : Nat) (x : V × V),es[j]? = some x → ∃ e,ms[j]? = some e ∧ VR μ x.1 e.key ∧ VR μ x.2 e.val) → ER μ es ms
 | [],ms,hl,_=>List.eq_nil_of_length_eq_zero hl
 | x::xs,[],hl,_=>by simp at hl
 | x::xs,m::ms,hl,h=>by
  obtain ⟨e,h1,h2,h3⟩:=h 0 x rfl
  simp at h1; subst h1
  exact ⟨m,ms,rfl,h2,h3,ER.of_get (by simpa using hl) fun j y hy=>by have:=h (j + 1) y (by simpa using hy); simpa using this⟩
theorem U7o (r : HR B μ h w) {x : V} {a : Value} {es : List (V × V)} (hx : VR μ x a) (he : entV h x = some es) :
  (a = .map none ∧ es = []) ∨ ∃ g ms clock,a = .map (some g) ∧ w.heap[g]? = some (.map ms clock) ∧ ER μ es ms.toList:=by
 cases x <;> simp only [entV] at he <;> try (cases he; done)
 ·rename_i b
  cases hb : h.get b <;> rw [hb] at he <;> simp only at he <;> try (cases he; done)
  simp only [Option.some.injEq] at he; subst he
  simp only [VR] at hx
  obtain ⟨g,q,hm,rfl⟩:=hx
  obtain ⟨g',q',h1,h2,h3⟩:=r.obj b (by rw [hb]; simp)
  rw [hm] at h1; cases h1
  rw [hb] at h3
  obtain ⟨ms,h4,h5,_⟩:=h3
  exact .inr ⟨g,ms,_,rfl,h4,h5⟩
 ·simp only [Option.some.injEq] at he; subst he
  simp only [VR] at hx
  exact .inl ⟨hx,rfl⟩
theorem G7o (r : HR B μ h w) {t kt et : TypeId} {kd : KY} {i : TypeInfo} {z : Value} {ok : Bool} {zero x ix v : V} {a b : Value} (ht : P.underlying t = some (.map kt et)) (hk : G8t P kt kd) (hi : P.info? et = some i) (hz : i.zero = some z)
  (hzv : VR μ zero z) (hx : VR μ x a) (hix : VR μ ix b) (he : lkV h kd ok zero x ix = some v) : ∃ y,(Instr.lookup t a b ok).run P w = .ok y w ∧ VR μ v y:=by
 unfold lkV at he
 cases hft : J5m kd ix <;> rw [hft] at he
 ·cases he
 simp only at he
 cases hes : entV h x <;> rw [hes] at he <;> simp only at he
 ·cases he
 rename_i es
 have hck : ∀ e : Bool,(Instr.checkKey e 10000 kt b).run P w = .ok () w:=fun e=>J8a hk hft hix e
 have htup : ∀ (o : Bool) (u : V) (y : Value),VR μ u y → VR μ (.tu [u,.b o]) (.tuple #[y,.bool o]):=by
  intro o u y hu
  simp only [VR]
  exact ⟨_,rfl,VRs.cons_mk hu (VRs.cons_mk (by rw [VR.b_iff]) (VRs.nil_iff.2 rfl))⟩
 have main : ∀ (ms : Array MapEntry),ER μ es ms.toList → (∀ res,(Instr.findKey kt b ms.toList).run P w = .ok res w → (Instr.lookup t a b ok).run P w = .ok (match res with
   | some (_,v)=>if ok then .tuple #[v,.bool true] else v
   | none=>if ok then .tuple #[z,.bool false] else z) w) → ∃ y,(Instr.lookup t a b ok).run P w = .ok y w ∧ VR μ v y:=by
  intro ms hms hrun
  cases hf : U5b kd h ix es 0 <;> rw [hf] at he
  ·cases he
  rename_i res
  have hs:=J5y hk r hix hms hf
  cases res with
  | none =>
   simp only [Option.some.injEq] at he; subst he
   simp only at hs
   refine ⟨_,hrun _ hs,?_⟩
   cases ok
   ·exact hzv
   ·exact htup false _ _ hzv
  | some jx =>
   obtain ⟨j,xx⟩:=jx
   simp only [Option.some.injEq] at he; subst he
   obtain ⟨v',e',g1,g2,_⟩:=hs
   refine ⟨_,hrun _ g1,?_⟩
   cases ok
   ·exact g2
   ·exact htup true _ _ g2
 rcases U7o r hx hes with ⟨rfl,rfl⟩ | ⟨g,ms,clock,rfl,h1,h2⟩
 ·refine main #[] rfl fun res hres=>?_
  have hck':=hck true
  simp only [Instr.lookup,Sem.run_bind,run_underlying ht,Result.andThen_ok,Sem.run_pure]
  have e0 : (#[] : Array MapEntry).isEmpty = true:=rfl
  simp only [e0,hck',Result.andThen_ok,hres]
  cases res with
  | none=>simp only [Sem.run_bind,J3z hi hz,Result.andThen_ok,Sem.run_pure]
  | some jx=>simp only [Sem.run_bind,Result.andThen_ok,Sem.run_pure]
 ·refine main ms h2 fun res hres=>?_
  simp only [Instr.lookup,Sem.run_bind,run_underlying ht,Result.andThen_ok,MapKept.run_getObj_map h1,Sem.run_pure,hck,hres]
  cases res with
  | none=>simp only [Sem.run_bind,J3z hi hz,Result.andThen_ok,Sem.run_pure]
  | some jx=>simp only [Sem.run_bind,Result.andThen_ok,Sem.run_pure]
theorem U9y (r : HR B μ h w) {b : Nat} {es es' : List (V × V)} {bs bs' : List Nat} {cl : Nat} (hb : h.get b = .map es bs cl) {g q : Nat} (hm : μ b = some (g,q)) {ms ms' : Array MapEntry} {clock clock' : Nat} (hh : w.heap[g]? = some (.map ms clock))
  (her : ER μ es' ms'.toList) (hbs : ms'.toList.map (·.born) = bs') (hnd : bs'.Nodup) (hlt : ∀ b ∈ bs',b < clock') :
  (setObj g (.map ms' clock')).run P w = .ok () { w with heap:=w.heap.setIfInBounds g (.map ms' clock') } ∧
   HR B μ (h.upd b (.map es' bs' clock')) { w with heap:=w.heap.setIfInBounds g (.map ms' clock') } ∧ Ext μ h w μ (h.upd b (.map es' bs' clock')) { w with heap:=w.heap.setIfInBounds g (.map ms' clock') }:=by
 have hd : h.get b ≠ .dead:=by rw [hb]; simp
 obtain ⟨g1,g2⟩:=heap_set (o':=.map ms' clock') hh
 refine ⟨MapKept.run_setObj_map _ hh,r.upd hd hm g2 (by simp) ⟨ms',g1,her,hbs,hnd,hlt⟩,Ext.upd hd hm g2 (by simp) rfl rfl rfl⟩
theorem G7j (r : HR B μ h w) {t kt et : TypeId} {kd : KY} {x ix v : V} {a b c : Value} {h' : H} (ht : P.underlying t = some (.map kt et)) (hk : G8t P kt kd)
  (hx : VR μ x a) (hix : VR μ ix b) (hv : VR μ v c) (he : muV h kd x ix v = some h') : ∃ w',(Instr.mapUpdate t a b c).run P w = .ok () w' ∧ HR B μ h' w' ∧ Ext μ h w μ h' w':=by
 unfold muV at he
 cases hft : J5m kd ix <;> rw [hft] at he
 ·cases he
 simp only at he
 cases x <;> simp only at he <;> try (cases he; done)
 rename_i p
 cases hb : h.get p <;> rw [hb] at he <;> simp only at he <;> try (cases he; done)
 rename_i es bs cl
 simp only [VR] at hx
 obtain ⟨g,q,hm,rfl⟩:=hx
 obtain ⟨g',q',h1,h2,h3⟩:=r.obj p (by rw [hb]; simp)
 rw [hm] at h1; cases h1
 rw [hb] at h3
 obtain ⟨ms,h4,h5,h6,h7,h8⟩:=h3
 have hck : (Instr.checkKey false 10000 kt b).run P w = .ok () w:=J8a hk hft hix false
 cases hf : U5b kd h ix es 0 <;> rw [hf] at he
 ·cases he
 rename_i res
 have hs:=J5y hk r hix h5 hf
 cases res with
 | none =>
  simp only [Option.some.injEq] at he; subst he
  simp only at hs
  obtain ⟨g1,g2,g3⟩:=U9y (P:=P) r hb hm h4 (es':=es ++ [(ix,v)]) (bs':=bs ++ [cl]) (ms':=ms.push { key:=b,val:=c,born:=cl }) (clock':=cl + 1) (by
   refine ER.of_get (by simp [h5.len]) fun j y hj=>?_
   by_cases hj2 : j < es.length
   ·rw [List.getElem?_append_left hj2] at hj
    obtain ⟨e,e1,e2⟩:=h5.get j y hj
    have : j < ms.toList.length:=by rw [h5.len]; exact hj2
    exact ⟨e,by rw [Array.toList_push,List.getElem?_append_left this]; exact e1,e2⟩
   ·rw [List.getElem?_append_right (by omega)] at hj
    have hj0 : j - es.length = 0:=by
     have:=(List.getElem?_eq_some_iff.1 hj).1
     simp at this; omega
    rw [hj0] at hj
    simp at hj; subst hj
    refine ⟨_,by rw [Array.toList_push,List.getElem?_append_right (by rw [h5.len]; omega),h5.len,hj0]; rfl,hix,hv⟩)
   (by simp only [Array.toList_push,List.map_append,List.map_cons,List.map_nil,h6])
   (by
    rw [List.nodup_append]
    refine ⟨h7,by simp,?_⟩
    intro x hx y hy
    simp at hy; subst hy
    have:=h8 x hx
    omega)
   (by
    intro e he
    simp only [List.mem_append,List.mem_singleton] at he
    rcases he with he | rfl
    ·have:=h8 e he; omega
    ·simp)
  refine ⟨_,?_,g2,g3⟩
  simp only [Instr.mapUpdate,Sem.run_bind,run_underlying ht,Result.andThen_ok,MapKept.run_getObj_map h4,hck,hs]
  exact g1
 | some jx =>
  obtain ⟨j,xx⟩:=jx
  simp only [Option.some.injEq] at he; subst he
  obtain ⟨v',e',f1,f2,f4,f5,f6,f7⟩:=hs
  have f5' : ms[j]? = some e':=by simpa using f5
  obtain ⟨g1,g2,g3⟩:=U9y (P:=P) r hb hm h4 (es':=es.modify j fun e=>(e.1,v)) (bs':=bs) (ms':=ms.modify j fun e=>{ e with key:=b,val:=c }) (clock':=cl) (by
   refine ER.of_get (by simp [h5.len]) fun i y hi=>?_
   rw [List.getElem?_modify] at hi
   cases hes : es[i]? <;> rw [hes] at hi
   ·simp at hi
   rename_i y0
   obtain ⟨e,e1,e2,e3⟩:=h5.get i y0 hes
   have e1' : ms[i]? = some e:=by simpa using e1
   simp only [Option.map_eq_map,Option.map_some,Option.some.injEq] at hi
   rw [Array.getElem?_toList,Array.getElem?_modify,e1']
   by_cases hij : j = i
   ·subst hij
    rw [if_pos rfl] at hi ⊢
    subst hi
    rw [f5'] at e1'; cases e1'
    refine ⟨_,rfl,?_,hv⟩
    rw [f6] at e2; exact e2
   ·rw [if_neg hij] at hi ⊢
    subst hi
    exact ⟨e,rfl,e2,e3⟩)
   (by
    rw [← h6]
    apply List.ext_getElem?
    intro i
    simp only [List.getElem?_map,Array.getElem?_toList,Array.getElem?_modify]
    split
    ·cases ms[i]? <;> rfl
    ·rfl) h7 h8
  refine ⟨_,?_,g2,g3⟩
  have hstay : (Instr.keyThatStays (((ms[j]?).map (·.key)).getD b) b).run P w = .ok b w:=by
   rw [f5']
   simp only [Option.map_some,Option.getD_some,f6]
   exact f7
  simp only [Instr.mapUpdate,Sem.run_bind,run_underlying ht,Result.andThen_ok,MapKept.run_getObj_map h4,hck,f1,hstay]
  exact g1
theorem J8m {α β : Type} (f : α → β) : ∀ (l : List α) (j : Nat),(l.eraseIdx j).map f = (l.map f).eraseIdx j
 | [],j=>by cases j <;> rfl
 | x::l,0=>rfl
 | x::l,j + 1=>by simp [J8m f l j]
theorem U4l {w : World} {g : Nat} {o : Obj} (hh : w.heap[g]? = some o) : ({ w with heap:=w.heap.setIfInBounds g o } : World) = w:=by
 have : w.heap.setIfInBounds g o = w.heap:=by
  apply Array.ext'
  apply List.ext_getElem?
  intro i
  rw [Array.toList_setIfInBounds,List.getElem?_set]
  split
  ·rename_i e
   subst e
   split
   ·rw [← hh]; simp
   ·rename_i hlt
    have:=(Array.getElem?_eq_some_iff.1 hh).1
    simp at hlt
    omega
  ·rfl
 rw [this]
theorem G2x (r : HR B μ h w) {t tk ty kt et : TypeId} {kd : KY} {x ix : V} {a b : Value} {h' : H} (ht : P.underlying t = some (.map kt et)) (hk : G8t P kt kd)
  (hx : VR μ x a) (hix : VR μ ix b) (he : delV h kd x ix = some h') : ∃ w',(Builtin.delete_ #[t,tk] ty #[a,b]).run P w = .ok (.tuple #[]) w' ∧ HR B μ h' w' ∧ Ext μ h w μ h' w':=by
 unfold delV at he
 cases hft : J5m kd ix <;> rw [hft] at he
 ·cases he
 simp only at he
 have hck : ∀ e : Bool,(Instr.checkKey e 10000 kt b).run P w = .ok () w:=fun e=>J8a hk hft hix e
 cases x <;> simp only at he <;> try (cases he; done)
 ·rename_i p
  cases hb : h.get p <;> rw [hb] at he <;> simp only at he <;> try (cases he; done)
  rename_i es bs cl
  simp only [VR] at hx
  obtain ⟨g,q,hm,rfl⟩:=hx
  obtain ⟨g',q',h1,h2,h3⟩:=r.obj p (by rw [hb]; simp)
  rw [hm] at h1; cases h1
  rw [hb] at h3
  obtain ⟨ms,h4,h5,h6,h7,h8⟩:=h3
  cases hf : U5b kd h ix es 0 <;> rw [hf] at he
  ·cases he
  rename_i res
  have hs:=J5y hk r hix h5 hf
  cases res with
  | none =>
   simp only [Option.some.injEq] at he; subst he
   simp only at hs
   refine ⟨w,?_,r,Ext.refl _ _ _⟩
   have hset : (setObj g (.map ms cl)).run P w = .ok () w:=by rw [MapKept.run_setObj_map _ h4,U4l h4]
   simp [Builtin.delete_,run_underlying ht,MapKept.run_getObj_map h4,hck,hs,hset]
  | some jx =>
   obtain ⟨j,xx⟩:=jx
   simp only [Option.some.injEq] at he; subst he
   obtain ⟨v',e',f1,f2,f4,f5,f6,_⟩:=hs
   have hjl : j < ms.size:=by simpa using f4
   have hel : (ms.eraseIdxIfInBounds j).toList = ms.toList.eraseIdx j:=by simp [Array.eraseIdxIfInBounds,hjl]
   have hsub : (bs.eraseIdx j).Sublist bs:=List.eraseIdx_sublist ..
   obtain ⟨g1,g2,g3⟩:=U9y (P:=P) r hb hm h4 (es':=es.eraseIdx j) (bs':=bs.eraseIdx j) (ms':=ms.eraseIdxIfInBounds j) (clock':=cl) (by
    rw [hel]
    refine ER.of_get (by rw [List.length_eraseIdx,List.length_eraseIdx,h5.len]) fun i y hi=>?_
    rw [List.getElem?_eraseIdx] at hi ⊢
    split
    ·rename_i hlt; rw [if_pos hlt] at hi; exact h5.get _ _ hi
    ·rename_i hlt; rw [if_neg hlt] at hi; exact h5.get _ _ hi)
    (by rw [hel,J8m,h6]) (hsub.nodup h7) (fun b hb=>h8 b (hsub.subset hb))
   refine ⟨_,?_,g2,g3⟩
   simp [Builtin.delete_,run_underlying ht,MapKept.run_getObj_map h4,hck,f1,g1]
 ·simp only [Option.some.injEq] at he; subst he
  simp only [VR] at hx; subst hx
  refine ⟨w,?_,r,Ext.refl _ _ _⟩
  simp [Builtin.delete_,run_underlying ht,hck]
def taV (t : Nat) (ok : Bool) (zero x : V) : Option V :=
 match x with
 | .inil=>Bool.rec none (some (.tu [zero,.b false])) ok
 | .ifc t' v=>Bool.rec (Bool.rec none (some (.tu [zero,.b false])) ok) (some (Bool.rec v (.tu [v,.b true]) ok)) (Nat.beq t' t)
 | _=>none
theorem G5x {xt t : TypeId} {d : TypeDesc} {i : TypeInfo} {z : Value} {ok : Bool} {zero x v : V} {a : Value} (ht : P.underlying t = some d) (hd : ∀ ms,d ≠ .interface ms) (hi : P.info? t = some i) (hz : i.zero = some z)
  (hzv : VR μ zero z) (hx : VR μ x a) (he : taV t ok zero x = some v) : ∃ y,(Instr.typeAssert a xt t ok).run P w = .ok y w ∧ VR μ v y:=by
 have htup : ∀ (o : Bool) (u : V) (y : Value),VR μ u y → VR μ (.tu [u,.b o]) (.tuple #[y,.bool o]):=by
  intro o u y hu
  simp only [VR]
  exact ⟨_,rfl,VRs.cons_mk hu (VRs.cons_mk (by rw [VR.b_iff]) (VRs.nil_iff.2 rfl))⟩
 cases x <;> simp only [taV] at he <;> try (cases he; done)
 ·rename_i t' y
  simp only [VR] at hx
  obtain ⟨u,rfl,hu⟩:=hx
  cases hb : Nat.beq t' t <;> rw [hb] at he
  ·have hne : t' ≠ t:=by intro e; rw [e,Nat.beq_refl] at hb; cases hb
   cases ok
   ·cases he
   simp only [Option.some.injEq] at he; subst he
   refine ⟨_,?_,htup false _ _ hzv⟩
   cases d <;> first
    | exact absurd rfl (hd _)
    | simp [Instr.typeAssert,run_underlying ht,hne,J3z hi hz]
  ·have:=Nat.eq_of_beq_eq_true hb; subst this
   simp only [Option.some.injEq] at he; subst he
   refine ⟨if ok then .tuple #[u,.bool true] else u,?_,?_⟩
   ·cases d <;> first
     | exact absurd rfl (hd _)
     | simp [Instr.typeAssert,run_underlying ht]
   ·cases ok
    ·exact hu
    ·exact htup true _ _ hu
 ·simp only [VR] at hx; subst hx
  cases ok
  ·cases he
  simp only [Option.some.injEq] at he; subst he
  refine ⟨_,?_,htup false _ _ hzv⟩
  cases d <;> first
   | exact absurd rfl (hd _)
   | simp [Instr.typeAssert,run_underlying ht,J3z hi hz]
def exV (n : Nat) (x : V) : Option V:=match x with | .tu l=>l[n]? | _=>none
theorem G8b {n : Nat} {x v : V} {a : Value} (hx : VR μ x a) (he : exV n x = some v) : ∃ y,(Instr.extract a n).run P w = .ok y w ∧ VR μ v y:=by
 cases x <;> simp only [exV] at he <;> try (cases he; done)
 simp only [VR] at hx
 obtain ⟨cs,rfl,hx⟩:=hx
 obtain ⟨y,h1,h2⟩:=hx.get _ _ he
 have h3 : cs[n]? = some y:=by simpa using h1
 exact ⟨y,by simp [Instr.extract,h3],h2⟩
def saV (n : Nat) (x : V) : Option V:=match x with | .sl b o len _ _=>Bool.rec none (some (.p b o)) (Nat.ble n len) | _=>none
theorem G6o {t e : TypeId} {n : Nat} {x v : V} {a : Value} (ht : P.underlying t = some (.array n e)) (hx : VR μ x a) (he : saV n x = some v) : ∃ y,(Instr.arrayAt t a).run P w = .ok y w ∧ VR μ v y:=by
 cases x <;> simp only [saV] at he <;> try (cases he; done)
 rename_i b o len cap ex
 simp only [VR] at hx
 obtain ⟨g,q,c,hm,rfl,_⟩:=hx
 cases hb : Nat.ble n len <;> rw [hb] at he
 ·cases he
 simp only [Option.some.injEq] at he; subst he
 have h1 : ¬ (len < n):=by have:=Nat.le_of_ble_eq_true hb; omega
 refine ⟨.pointer (some ⟨g,q + o,none⟩),?_,by simp only [VR]; exact ⟨g,q,hm,rfl⟩⟩
 simp [Instr.arrayAt,run_underlying ht,h1]
def lnL (x : V) : Option V:=match x with | .sn=>some (.i .i64 (.ofNat 0)) | .se=>some (.i .i64 (.ofNat 0)) | .sl _ _ len _ _=>some (.i .i64 (.ofNat len)) | _=>none
def lnS (x : V) : Option V:=match x with | .s l=>some (.i .i64 (.ofNat l.length)) | _=>none
def lnM (h : H) (x : V) : Option V:=match entV h x with | some es=>some (.i .i64 (.ofNat es.length)) | none=>none
end
def rgsV (h : H) (x : V) : Option (V × H):=match x with | .s l=>some (.p h.next 0,h.new (.sit l 0)) | _=>none
def nxsV (h : H) (x : V) : Option (V × H) :=
 match x with
 | .p b o=>match h.get b with
  | .sit l pos=>match o with
   | 0=>match l with
    | []=>some (.tu [.b false],h)
    | c::l=>Bool.rec none (some (.tu [.b true,.i .i64 (.ofNat pos),.i .i32 (.ofNat c)],h.upd b (.sit l (Nat.add pos 1)))) (Nat.ble c 127)
   | _=>none
  | _=>none
 | _=>none
def cvMV (h : H) (x : V) : Option (V × H) :=
 match x with
 | .sl b o len cap ex=>match h.get b with
  | .cells n c z=>Bool.rec none (some (.sl b o len cap ex,h.upd b (.cells n c false))) z
  | _=>none
 | _=>none
section
variable {P : Program} {B : Bs} {μ : M} {h : H} {w : World}
theorem W9u (r : HR B μ h w) {t : TypeId} {x v : V} {a : Value} {h' : H} (ht : P.underlying t = some .string) (hx : VR μ x a) (he : rgsV h x = some (v,h')) : Runs P B μ h w (Instr.range t a) v h':=by
 cases x <;> simp only [rgsV] at he <;> try (cases he; done)
 rename_i l
 simp only [VR] at hx
 obtain ⟨s,rfl,rfl⟩:=hx
 simp only [Option.some.injEq,Prod.mk.injEq] at he
 obtain ⟨rfl,rfl⟩:=he
 have hs : w.heap.size ≤ (w.iter s 0).heap.size:=by simp [World.iter]
 have hw : ∀ k,k < w.heap.size → (w.iter s 0).heap[k]? = w.heap[k]?:=fun k hk=>Below.heap_alloc _ _ _ hk
 refine ⟨⟨_,_,M.new μ h.next (w.heap.size,0) 0,run_range_string w t s ht,?_,?_,Ext.new r hs hw rfl rfl rfl⟩⟩
 ·simp only [VR]; exact ⟨w.heap.size,0,M.new_same _ _ _ _,rfl⟩
 ·refine r.new hs r.base ?_ (fun k hk _=>hw k hk) ?_
  ·intro b q' hb hm
   obtain ⟨g,q,h1,_,h3⟩:=r.obj b hb
   rw [hm] at h1; cases h1
   exact absurd (h3.lt hb) (Nat.lt_irrefl _)
  ·exact ⟨s,World.iter_heap _ _ _,rfl,rfl⟩
theorem G0r (r : HR B μ h w) {t : TypeId} {x v : V} {a : Value} {h' : H} (hx : VR μ x a) (he : nxsV h x = some (v,h')) : Runs P B μ h w (Instr.next a true t) v h':=by
 cases x <;> simp only [nxsV] at he <;> try (cases he; done)
 rename_i b o
 cases hb : h.get b <;> rw [hb] at he <;> simp only at he <;> try (cases he; done)
 rename_i l pos
 cases o <;> simp only at he
 ·simp only [VR] at hx
  obtain ⟨g,q,hm,rfl⟩:=hx
  have hd : h.get b ≠ .dead:=by rw [hb]; simp
  obtain ⟨g',q',h1,_,h3⟩:=r.obj b hd
  rw [hm] at h1; cases h1
  rw [hb] at h3
  obtain ⟨s,k1,k2,rfl⟩:=h3
  have hsz : (bytesOf s).length = s.size:=by unfold bytesOf; rw [List.length_map]; rfl
  cases l with
  | nil =>
   simp only [Option.some.injEq,Prod.mk.injEq] at he
   obtain ⟨rfl,rfl⟩:=he
   have hp : ¬ pos < s.size:=by
    intro hp
    have:=congrArg List.length k2
    rw [List.length_drop,hsz] at this
    simp only [List.length_nil] at this
    omega
   refine ⟨⟨_,w,μ,Go.Lib.run_next_end_at w g s pos t k1 hp,?_,r,Ext.refl _ _ _⟩⟩
   simp only [VR]
   exact ⟨_,rfl,VRs.cons_mk (VR.b_iff.2 rfl) (VRs.nil_iff.2 rfl)⟩
  | cons c l =>
   simp only at he
   cases hc : Nat.ble c 127 <;> rw [hc] at he
   ·cases he
   simp only [Option.some.injEq,Prod.mk.injEq] at he
   obtain ⟨rfl,rfl⟩:=he
   have hp : pos < s.size:=by
    have:=congrArg List.length k2
    rw [List.length_drop,hsz] at this
    simp only [List.length_cons] at this
    omega
   have hcc : (bytesOf s)[pos]? = some c:=by
    have:=congrArg (fun l=>l[0]?) k2
    simpa using this
   have hcv : (s[pos]'hp).toNat = c:=by
    unfold bytesOf at hcc
    rw [List.getElem?_map] at hcc
    have hg : s.data.toList[pos]? = some (s[pos]'hp):=by
     rw [Array.getElem?_toList]
     exact Array.getElem?_eq_getElem (xs:=s.data) hp
    rw [hg] at hcc
    simpa using hcc
   have hlt : c ≤ 127:=Nat.le_of_ble_eq_true hc
   have hrun:=Go.Lib.run_next_ascii_at (P:=P) w g s pos t k1 hp (by rw [hcv]; omega)
   have hh:=Go.Lib.iterAt_heap w g s pos (pos + 1) k1
   have hne : ∀ k,k ≠ g → (w.iterAt g s (pos + 1)).heap[k]? = w.heap[k]?:=by
    intro k hk
    show (w.heap.setIfInBounds g _)[k]? = _
    rw [Array.getElem?_setIfInBounds_ne (Ne.symm hk)]
   have hsize : (w.iterAt g s (pos + 1)).heap.size = w.heap.size:=by simp [World.iterAt]
   refine ⟨⟨_,_,μ,hrun,?_,r.upd hd hm hne hsize ⟨s,hh,?_,rfl⟩,Ext.upd hd hm hne hsize rfl rfl rfl⟩⟩
   ·simp only [VR]
    refine ⟨_,rfl,VRs.cons_mk (VR.b_iff.2 rfl) (VRs.cons_mk (VR.i_iff.2 rfl) (VRs.cons_mk (VR.i_iff.2 ?_) (VRs.nil_iff.2 rfl)))⟩
    rw [hcv]; rfl
   ·have:=congrArg (List.drop 1) k2
    rw [List.drop_drop] at this
    simpa using this
 ·cases he
theorem G3b (r : HR B μ h w) {src dst e e' : TypeId} {x v : V} {a : Value} {h' : H} (hsd : src = dst) (hs : P.underlying src = some (.slice e')) (hd : P.underlying dst = some (.slice e)) (hu : P.underlying e = some (.int .u8)) (hx : VR μ x a) (he : cvMV h x = some (v,h')) :
  Runs P B μ h w (convert src dst a) v h':=by
 have hx0:=hx
 cases x <;> simp only [cvMV] at he <;> try (cases he; done)
 rename_i b o len cap ex
 cases hb : h.get b <;> rw [hb] at he <;> simp only at he <;> try (cases he; done)
 rename_i n c z
 cases z <;> simp only at he
 ·cases he
 simp only [Option.some.injEq,Prod.mk.injEq] at he
 obtain ⟨rfl,rfl⟩:=he
 simp only [VR] at hx
 obtain ⟨g,q,c0,hm,rfl,hx3⟩:=hx
 have hdd : h.get b ≠ .dead:=by rw [hb]; simp
 obtain ⟨g',q',h1,_,h3⟩:=r.obj b hdd
 rw [hm] at h1; cases h1
 rw [hb] at h3
 obtain ⟨cur,el,fr,k1,k2,k3,k4,k5,k6⟩:=h3
 have hfr:=k2 rfl
 subst hfr
 have hlt : g < w.heap.size:=(Array.getElem?_eq_some_iff.1 k1).1
 have hshape : w.shape? g = some (el,cur.size):=by unfold World.shape?; rw [k1]
 have hrun : (convert src dst (.slice (some ⟨g,q + o,none⟩) len c0)).run P w = .ok (.slice (some ⟨g,q + o,none⟩) len c0) (w.freeze ⟨g,cur.size,none⟩ 1):=by
  subst hsd
  simp only [convert,Sem.run_bind,run_underlying hs,Result.andThen_ok,beq_self_eq_true]
  rw [hs] at hd
  cases hd
  simp only [run_underlying hu,Result.andThen_ok,Sem.run_bind,markStringish,run_shape,hshape,run_freeze,Sem.run_pure]
 have hfz : (w.freeze ⟨g,cur.size,none⟩ 1).heap[g]? = some (.cells cur el (cur.size,cur.size + 1)):=by
  unfold World.freeze
  simp [Array.getElem?_modify,k1]
 have hne : ∀ k,k ≠ g → (w.freeze ⟨g,cur.size,none⟩ 1).heap[k]? = w.heap[k]?:=by
  intro k hk
  unfold World.freeze
  simp [Array.getElem?_modify,Ne.symm hk]
 have hsize : (w.freeze ⟨g,cur.size,none⟩ 1).heap.size = w.heap.size:=by unfold World.freeze; simp
 refine ⟨⟨_,_,μ,hrun,hx0,r.upd hdd hm hne hsize ⟨cur,el,(cur.size,cur.size + 1),hfz,(fun e=>by cases e),k3,k4,(fun i hi=>by simp only; omega),k6⟩,Ext.upd hdd hm hne hsize ?_ ?_ ?_⟩⟩
 all_goals (unfold World.freeze; simp)
end
def eqVI (a b : V) : Bool :=
 match a with
 | .i k n=>match b with
  | .i k' m=>Bool.rec false (eqI n m) (Nat.beq (kno k) (kno k'))
  | _=>false
 | _=>false
def G8q (v : V) (es : List (V × V)) : Bool:=List.rec (motive:=fun _=>Bool) true (fun e _ ih=>Bool.rec false ih (eqVI v e.2)) es
def anyE (es : List (V × V)) : Option (V × V) :=
 match es with
 | []=>none
 | e::es=>match es with
  | []=>some e
  | _::_=>Bool.rec none (some (.u,e.2)) (G8q e.2 es)
def rgmV (h : H) (x : V) : Option (V × H) :=
 match x with
 | .m r=>match h.get r with
  | .map _ bs cl=>some (.p h.next 0,h.new (.mit r bs cl 0 cl))
  | _=>none
 | _=>none
def nxmV (h : H) (x : V) : Option (V × H) :=
 match x with
 | .p b o=>match o with
  | 0=>match h.get b with
   | .mit r bs since cnt last=>match h.get r with
    | .map es bs' cl=>match es with
     | []=>some (.tu [.b false],h)
     | _::_=>Bool.rec none (Bool.rec (match anyE es with
       | some p=>some (.tu [.b true,p.1,p.2],h.upd b (.mit r bs since (Nat.add cnt 1) cl))
       | none=>none) (some (.tu [.b false],h)) (Nat.beq cnt es.length)) (eqL bs bs' && Nat.ble since cl)
    | _=>none
   | _=>none
  | _=>none
 | _=>none
def enmV (h : H) (x : V) : Option V :=
 match x with
 | .p b o=>match o with
  | 0=>match h.get b with
   | .mit r bs since cnt last=>match h.get r with
    | .map es bs' cl=>Bool.rec none (match anyE es with
      | some p=>some (.tu [p.1,p.2])
      | none=>none) (eqL bs bs' && (Nat.beq cl last && Nat.ble 1 cnt))
    | _=>none
   | _=>none
  | _=>none
 | _=>none
theorem J9b : ∀ {l m : List Nat},l.Nodup → (∀ x ∈ l,x ∈ m) → l.length ≤ m.length
 | [],_,_,_=>Nat.zero_le _
 | x::l,m,hn,hs=>by
  have hn2:=List.nodup_cons.1 hn
  have hx:=hs x (by simp)
  have : l.length ≤ (m.erase x).length:=J9b hn2.2 fun y hy=>by
   have hyx : y ≠ x:=fun e=>hn2.1 (e ▸ hy)
   exact (List.mem_erase_of_ne hyx).2 (hs y (by simp [hy]))
  have h1:=List.length_erase_of_mem hx
  have h2 : 0 < m.length:=List.length_pos_of_mem hx
  simp only [List.length_cons]
  omega
section
variable {P : Program} {B : Bs} {μ : M} {h : H} {w : World}
theorem G2q {a b : V} (he : eqVI a b = true) : a = b:=by
 cases a <;> simp only [eqVI] at he <;> try (cases he; done)
 cases b <;> simp only at he <;> try (cases he; done)
 rename_i k n k' m
 cases hk : Nat.beq (kno k) (kno k') <;> rw [hk] at he
 ·cases he
 have:=J1c (Nat.eq_of_beq_eq_true hk); subst this
 simp only at he
 rw [J1x] at he
 have : n = m:=by simpa using he
 rw [this]
theorem U3x {v : V} : ∀ {es : List (V × V)},G8q v es = true → ∀ e ∈ es,e.2 = v
 | [],_,e,he=>by simp at he
 | x::es,h,e,he=>by
  have h2 : (Bool.rec false (G8q v es) (eqVI v x.2) : Bool) = true:=h
  cases hx : eqVI v x.2 <;> rw [hx] at h2
  ·cases h2
  rcases List.mem_cons.1 he with rfl | he
  ·exact (G2q hx).symm
  ·exact U3x h2 e he
theorem U8a {es : List (V × V)} {p : V × V} (ha : anyE es = some p) {ms : List MapEntry} (hr : ER μ es ms) : ∀ e ∈ ms,VR μ p.1 e.key ∧ VR μ p.2 e.val:=by
 intro e he
 obtain ⟨j,hj⟩:=List.mem_iff_getElem?.1 he
 have hjl : j < es.length:=by rw [← hr.len]; exact (List.getElem?_eq_some_iff.1 hj).1
 obtain ⟨e',e1,e2,e3⟩:=hr.get j _ (List.getElem?_eq_getElem hjl)
 rw [hj] at e1; cases e1
 unfold anyE at ha
 split at ha
 ·cases ha
 ·rename_i x es'
  split at ha
  ·cases ha
   have : j = 0:=by simp at hjl; omega
   subst this
   exact ⟨e2,e3⟩
  ·rename_i y es2
   cases hall : G8q x.2 (y::es2) <;> rw [hall] at ha
   ·cases ha
   cases ha
   refine ⟨VR.u _,?_⟩
   have : ((x::y::es2)[j]).2 = x.2:=by
    have hm:=List.getElem_mem hjl
    rcases List.mem_cons.1 hm with hm | hm
    ·rw [hm]
    ·exact U3x hall _ hm
   rw [this] at e3
   exact e3
theorem W9v (r : HR B μ h w) {t kt et : TypeId} {x v : V} {a : Value} {h' : H} (ht : P.underlying t = some (.map kt et)) (hx : VR μ x a) (he : rgmV h x = some (v,h')) : Runs P B μ h w (Instr.range t a) v h':=by
 cases x <;> simp only [rgmV] at he <;> try (cases he; done)
 rename_i b
 cases hb : h.get b <;> rw [hb] at he <;> simp only at he <;> try (cases he; done)
 rename_i es bs cl
 simp only [VR] at hx
 obtain ⟨g,q,hm,rfl⟩:=hx
 obtain ⟨g',q',h1,h2,h3⟩:=r.obj b (by rw [hb]; simp)
 rw [hm] at h1; cases h1
 rw [hb] at h3
 obtain ⟨ms,h4,h5,h6,h7,h8⟩:=h3
 simp only [Option.some.injEq,Prod.mk.injEq] at he
 obtain ⟨rfl,rfl⟩:=he
 have hs : w.heap.size ≤ (w.alloc (.mapIter (some g) cl #[] cl)).heap.size:=by simp
 have hw : ∀ k,k < w.heap.size → (w.alloc (.mapIter (some g) cl #[] cl)).heap[k]? = w.heap[k]?:=fun k hk=>Below.heap_alloc _ _ _ hk
 have hle:=M.le_new (x:=(w.heap.size,0)) (N:=0) r.next_none
 refine ⟨⟨_,_,M.new μ h.next (w.heap.size,0) 0,run_range_map w t kt et g ms cl ht h4,?_,?_,Ext.new r hs hw rfl rfl rfl⟩⟩
 ·simp only [VR]; exact ⟨w.heap.size,0,M.new_same _ _ _ _,rfl⟩
 ·refine r.new hs r.base ?_ (fun k hk _=>hw k hk) ?_
  ·intro b q' hb hm
   obtain ⟨g,q,h1,_,h3⟩:=r.obj b hb
   rw [hm] at h1; cases h1
   exact absurd (h3.lt hb) (Nat.lt_irrefl _)
  ·exact ⟨rfl,g,q,#[],(hle _ _ hm).1,heap_alloc_new _ _,Nat.le_refl _,rfl,by simp,by simp,h8⟩
theorem G0s (r : HR B μ h w) {t : TypeId} {x v : V} {a : Value} {h' : H} (hx : VR μ x a) (he : nxmV h x = some (v,h')) : Runs P B μ h w (Instr.next a false t) v h':=by
 cases x <;> simp only [nxmV] at he <;> try (cases he; done)
 rename_i b o
 cases o <;> simp only at he <;> try (cases he; done)
 cases hb : h.get b <;> rw [hb] at he <;> simp only at he <;> try (cases he; done)
 rename_i rm bs since cnt last
 cases hbm : h.get rm <;> rw [hbm] at he <;> simp only at he <;> try (cases he; done)
 rename_i es bs' cl
 simp only [VR] at hx
 obtain ⟨g,q,hm,rfl⟩:=hx
 have hd : h.get b ≠ .dead:=by rw [hb]; simp
 obtain ⟨g',q',h1,_,h3⟩:=r.obj b hd
 rw [hm] at h1; cases h1
 rw [hb] at h3
 obtain ⟨rfl,gr,qr,seen,k1,k2,k3,k4,k5,k6,k7⟩:=h3
 obtain ⟨gm,qm,m1,_,m3⟩:=r.obj rm (by rw [hbm]; simp)
 rw [k1] at m1; cases m1
 rw [hbm] at m3
 obtain ⟨ms,n1,n2,n3,n4,n5⟩:=m3
 cases es with
 | nil =>
  simp only [Option.some.injEq,Prod.mk.injEq] at he
  obtain ⟨rfl,rfl⟩:=he
  have hms : ms = #[]:=by have : ms.toList = []:=n2; exact Array.ext' this
  subst hms
  rcases run_next_at (P:=P) w t g gr since last seen #[] cl k2 n1 (by simp) k3 with ⟨_,hrun⟩ | ⟨e,he,_⟩
  ·exact Runs.same r hrun (by simp only [VR]; exact ⟨_,rfl,VRs.cons_mk (by rw [VR.b_iff]) (VRs.nil_iff.2 rfl)⟩)
  ·simp [leftOf] at he
 | cons e0 es =>
  simp only at he
  cases hc : (eqL bs bs' && Nat.ble since cl) <;> rw [hc] at he
  ·cases he
  simp only [Bool.and_eq_true] at hc
  have hbs:=(J1v _ _).1 hc.1
  subst hbs
  have hcl:=Nat.le_of_ble_eq_true hc.2
  have hold : ∀ x ∈ ms.toList,x.born < since:=fun x hx=>k7 _ (by rw [← n3]; exact List.mem_map.2 ⟨x,hx,rfl⟩)
  have hbl : bs.length = (e0::es).length:=by rw [← n3,List.length_map,n2.len]
  have hleft : ∀ e ∈ ms.toList,e.born ∉ seen.toList → e ∈ (leftOf ms seen).toList:=fun e h1 h2=>by
   unfold leftOf
   simp only [Array.toList_filter,List.mem_filter]
   exact ⟨h1,by simpa using h2⟩
  have hseenl : seen.toList.length = cnt:=by simpa using k4
  cases hct : Nat.beq cnt (e0::es).length <;> rw [hct] at he
  ·simp only at he
   cases hany : anyE (e0::es) <;> rw [hany] at he
   ·cases he
   rename_i p
   simp only [Option.some.injEq,Prod.mk.injEq] at he
   obtain ⟨rfl,rfl⟩:=he
   rcases run_next_at (P:=P) w t g gr since last seen ms cl k2 n1 hold k3 with ⟨h0,hrun⟩ | ⟨e,hel,w1,hw1,hrun⟩
   ·exfalso
    have hall : ∀ x ∈ bs,x ∈ seen.toList:=fun x hx=>by
     rw [← n3] at hx
     obtain ⟨e,he1,rfl⟩:=List.mem_map.1 hx
     apply Classical.byContradiction
     intro hno
     have:=hleft e he1 hno
     have h0' : (leftOf ms seen).toList = []:=by
      apply List.eq_nil_of_length_eq_zero; simpa using h0
     rw [h0'] at this
     cases this
    have h1:=J9b n4 hall
    have h2:=J9b k5 k6
    have : Nat.beq cnt (e0::es).length = true:=by
     have : cnt = (e0::es).length:=by omega
     rw [this]; exact Nat.beq_refl _
    rw [hct] at this
    cases this
   ·have hel2 : e ∈ ms.toList ∧ e.born ∉ seen.toList:=by
     unfold leftOf at hel
     simp only [Array.toList_filter,List.mem_filter] at hel
     exact ⟨hel.1,by simpa using hel.2⟩
    obtain ⟨v1,v2⟩:=U8a hany n2 e hel2.1
    have r1 : HR B μ h w1:=by rcases hw1 with rfl | rfl <;> first | exact r | exact r.drew
    have hblk : ∀ k,k ≠ g → (Go.ChangeMaps.setBlock w1 g (.mapIter (some gr) since (seen.push e.born) cl)).heap[k]? = w1.heap[k]?:=fun k hk=>by
     unfold Go.ChangeMaps.setBlock
     simp [Ne.symm hk]
    have hw1g : w1.heap[g]? = some (.mapIter (some gr) since seen last):=by rcases hw1 with rfl | rfl <;> exact k2
    have hnew : (Go.ChangeMaps.setBlock w1 g (.mapIter (some gr) since (seen.push e.born) cl)).heap[g]? = some (.mapIter (some gr) since (seen.push e.born) cl):=by
     unfold Go.ChangeMaps.setBlock
     have:=(Array.getElem?_eq_some_iff.1 hw1g).1
     simp [this]
    have hsz : (Go.ChangeMaps.setBlock w1 g (.mapIter (some gr) since (seen.push e.born) cl)).heap.size = w1.heap.size:=by
     unfold Go.ChangeMaps.setBlock; simp
    have e1 : Ext μ h w μ h w1:=by rcases hw1 with rfl | rfl <;> first | exact Ext.refl _ _ _ | exact Ext.drew
    refine ⟨⟨_,_,μ,hrun,?_,r1.upd hd hm hblk hsz ?_,e1.trans (Ext.upd hd hm hblk hsz rfl rfl rfl)⟩⟩
    ·simp only [VR]
     exact ⟨_,rfl,VRs.cons_mk (by rw [VR.b_iff]) (VRs.cons_mk v1 (VRs.cons_mk v2 (VRs.nil_iff.2 rfl)))⟩
    ·refine ⟨rfl,gr,qr,_,k1,hnew,hcl,by simp [k4],?_,?_,k7⟩
     ·rw [Array.toList_push,List.nodup_append]
      refine ⟨k5,by simp,fun x hx y hy=>?_⟩
      simp at hy; subst hy
      exact fun e2=>hel2.2 (e2 ▸ hx)
     ·intro x hx
      rw [Array.toList_push] at hx
      rcases List.mem_append.1 hx with hx | hx
      ·exact k6 x hx
      ·simp at hx; subst hx
       rw [← n3]; exact List.mem_map.2 ⟨e,hel2.1,rfl⟩
  ·simp only [Option.some.injEq,Prod.mk.injEq] at he
   obtain ⟨rfl,rfl⟩:=he
   have hcn:=Nat.eq_of_beq_eq_true hct
   rcases run_next_at (P:=P) w t g gr since last seen ms cl k2 n1 hold k3 with ⟨_,hrun⟩ | ⟨e,hel,_⟩
   ·exact Runs.same r hrun (by simp only [VR]; exact ⟨_,rfl,VRs.cons_mk (by rw [VR.b_iff]) (VRs.nil_iff.2 rfl)⟩)
   ·exfalso
    have hel2 : e ∈ ms.toList ∧ e.born ∉ seen.toList:=by
     unfold leftOf at hel
     simp only [Array.toList_filter,List.mem_filter] at hel
     exact ⟨hel.1,by simpa using hel.2⟩
    have hnd : (e.born::seen.toList).Nodup:=List.nodup_cons.2 ⟨hel2.2,k5⟩
    have:=J9b hnd (m:=bs) fun x hx=>by
     rcases List.mem_cons.1 hx with rfl | hx
     ·rw [← n3]; exact List.mem_map.2 ⟨e,hel2.1,rfl⟩
     ·exact k6 x hx
    simp only [List.length_cons] at this hbl hcn
    omega
theorem G2s (r : HR B μ h w) {x v : V} {a : Value} (hx : VR μ x a) (he : enmV h x = some v) : ∃ y,(Instr.entry a).run P w = .ok y w ∧ VR μ v y:=by
 cases x <;> simp only [enmV] at he <;> try (cases he; done)
 rename_i b o
 cases o <;> simp only at he <;> try (cases he; done)
 cases hb : h.get b <;> rw [hb] at he <;> simp only at he <;> try (cases he; done)
 rename_i rm bs since cnt last
 cases hbm : h.get rm <;> rw [hbm] at he <;> simp only at he <;> try (cases he; done)
 rename_i es bs' cl
 cases hc : (eqL bs bs' && (Nat.beq cl last && Nat.ble 1 cnt)) <;> rw [hc] at he
 ·cases he
 simp only at he
 cases hany : anyE es <;> rw [hany] at he
 ·cases he
 rename_i p
 simp only [Option.some.injEq] at he
 subst he
 simp only [Bool.and_eq_true] at hc
 have hbs:=(J1v _ _).1 hc.1
 subst hbs
 have hcl:=Nat.eq_of_beq_eq_true hc.2.1
 have hcnt:=Nat.le_of_ble_eq_true hc.2.2
 subst hcl
 simp only [VR] at hx
 obtain ⟨g,q,hm,rfl⟩:=hx
 have hd : h.get b ≠ .dead:=by rw [hb]; simp
 obtain ⟨g',q',h1,_,h3⟩:=r.obj b hd
 rw [hm] at h1; cases h1
 rw [hb] at h3
 obtain ⟨rfl,gr,qr,seen,k1,k2,k3,k4,k5,k6,k7⟩:=h3
 obtain ⟨gm,qm,m1,_,m3⟩:=r.obj rm (by rw [hbm]; simp)
 rw [k1] at m1; cases m1
 rw [hbm] at m3
 obtain ⟨ms,n1,n2,n3,n4,n5⟩:=m3
 have hsz : 0 < seen.size:=by omega
 have hlast : seen.pop.push (seen[seen.size - 1]) = seen:=by
  apply Array.ext'
  have hne : seen.toList ≠ []:=fun e=>by have:=congrArg List.length e; simp at this; rw [this] at hsz; simp at hsz
  rw [Array.toList_push,Array.toList_pop]
  have h1:=List.dropLast_concat_getLast hne
  rw [List.getLast_eq_getElem] at h1
  simpa using h1
 have hmem : seen[seen.size - 1] ∈ bs:=k6 _ (by simp)
 rw [← n3] at hmem
 obtain ⟨e,he1,he2⟩:=List.mem_map.1 hmem
 obtain ⟨v1,v2⟩:=U8a hany n2 e he1
 have k2' : w.heap[g]? = some (.mapIter (some gr) since (seen.pop.push e.born) cl):=by rw [he2,hlast]; exact k2
 refine ⟨_,run_entry_at w g gr since seen.pop ms cl e k2' n1 he1 (by rw [n3]; exact n4),?_⟩
 simp only [VR]
 exact ⟨_,rfl,VRs.cons_mk v1 (VRs.cons_mk v2 (VRs.nil_iff.2 rfl))⟩
end
end Go.X
end
