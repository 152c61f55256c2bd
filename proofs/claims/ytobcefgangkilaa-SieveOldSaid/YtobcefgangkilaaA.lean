/- The plain law of a sieve: a window of 64 bits below the greatest number tells which numbers are known. No Go here. -/
namespace Go.Proofs.Ytobcefgangkilaa.Sv

/-- The greatest number of the layer. -/
def mx : Int := 9007199254740991

/-- Is a number known, where the numbers of L came? -/
def known (L : List Int) (n : Int) : Bool := L.any fun l => l == n || decide (64 ≤ l - n)

theorem known_iff (L : List Int) (n : Int) : known L n = true ↔ ∃ l ∈ L, l = n ∨ 64 ≤ l - n := by
  simp [known]

/-- What the struct holds, and the numbers that came. -/
structure Inv (next : Int) (m : Nat) (L : List Int) : Prop where
  n0 : 0 ≤ next
  n1 : next ≤ 9007199254740992
  m64 : m < 2 ^ 64
  lo : ∀ l ∈ L, 0 ≤ l ∧ l < next
  top : next = 0 ∨ next - 1 ∈ L
  bit : ∀ i : Nat, i < 64 → (m.testBit i = true ↔ next - 1 - (i : Int) ∈ L)

theorem Inv.nil : Inv 0 0 [] := ⟨by omega, by omega, by decide, by simp, .inl rfl, by simp⟩

def hasB (next : Int) (m : Nat) (n : Int) : Bool := decide (64 ≤ next - 1 - n) || (decide (0 ≤ next - 1 - n) && m.testBit (next - 1 - n).toNat)

theorem Inv.has {next : Int} {m : Nat} {L : List Int} (h : Inv next m L) (n : Int) (h0 : 0 ≤ n) : hasB next m n = known L n := by
  rw [Bool.eq_iff_iff, known_iff]
  unfold hasB
  simp only [Bool.or_eq_true, Bool.and_eq_true, decide_eq_true_eq]
  constructor
  · rintro (h1 | ⟨h1, h2⟩)
    · rcases h.top with ht | ht
      · omega
      · exact ⟨_, ht, .inr (by omega)⟩
    · by_cases h3 : 64 ≤ next - 1 - n
      · rcases h.top with ht | ht
        · omega
        · exact ⟨_, ht, .inr (by omega)⟩
      · have := (h.bit (next - 1 - n).toNat (by omega)).1 h2
        rw [show next - 1 - ((next - 1 - n).toNat : Int) = n by omega] at this
        exact ⟨n, this, .inl rfl⟩
  · rintro ⟨l, hl, h1 | h1⟩
    · subst h1
      have := h.lo l hl
      by_cases h3 : 64 ≤ next - 1 - l
      · exact .inl h3
      · refine .inr ⟨by omega, (h.bit _ (by omega)).2 ?_⟩
        rw [show next - 1 - ((next - 1 - l).toNat : Int) = l by omega]
        exact hl
    · have := h.lo l hl
      exact .inl (by omega)

theorem Inv.old {next : Int} {m : Nat} {L : List Int} (h : Inv next m L) {n : Int} (h0 : 0 ≤ n) (hk : known L n = true) : Inv next m (n :: L) := by
  obtain ⟨l, hl, h1⟩ := (known_iff L n).1 hk
  have hb := h.lo l hl
  refine ⟨h.n0, h.n1, h.m64, ?_, ?_, ?_⟩
  · intro x hx
    rcases List.mem_cons.1 hx with rfl | hx
    · omega
    · exact h.lo x hx
  · rcases h.top with ht | ht
    · exact .inl ht
    · exact .inr (List.mem_cons_of_mem _ ht)
  · intro i hi
    rw [h.bit i hi]
    constructor
    · exact fun hx => List.mem_cons_of_mem _ hx
    · intro hx
      rcases List.mem_cons.1 hx with hx | hx
      · rcases h1 with h1 | h1
        · subst h1; rw [hx]; exact hl
        · omega
      · exact hx

theorem Inv.up {next : Int} {m : Nat} {L : List Int} (h : Inv next m L) {n : Int} (h1 : next ≤ n) (h2 : n ≤ 9007199254740991) :
    Inv (n + 1) ((m * 2 ^ min (n + 1 - next).toNat 64) % 2 ^ 64 ||| 1) (n :: L) := by
  have h0 := h.n0
  refine ⟨by omega, by omega, ?_, ?_, .inr (by simp), ?_⟩
  · exact Nat.or_lt_two_pow (Nat.mod_lt _ (by decide)) (by decide)
  · intro x hx
    rcases List.mem_cons.1 hx with rfl | hx
    · omega
    · have := h.lo x hx; omega
  · intro i hi
    rw [Nat.testBit_or, Nat.testBit_mod_two_pow]
    have hs : (m * 2 ^ min (n + 1 - next).toNat 64).testBit i = (decide (min (n + 1 - next).toNat 64 ≤ i) && m.testBit (i - min (n + 1 - next).toNat 64)) := by
      rw [← Nat.shiftLeft_eq, Nat.testBit_shiftLeft]
    rw [hs]
    have h1b : Nat.testBit 1 i = decide (i = 0) := by
      rw [show (1 : Nat) = 2 ^ 0 from rfl, Nat.testBit_two_pow]; simp [eq_comm]
    rw [h1b]
    simp only [hi, decide_true, Bool.true_and, Bool.or_eq_true, Bool.and_eq_true, decide_eq_true_eq, List.mem_cons]
    by_cases hi0 : i = 0
    · subst hi0; simp
    · have ha : ¬ (n + 1 - 1 - (i : Int) = n) := by omega
      simp only [hi0, or_false, ha, false_or]
      constructor
      · rintro ⟨ha, hb⟩
        have := (h.bit _ (by omega)).1 hb
        rw [show n + 1 - 1 - (i : Int) = next - 1 - ((i - min (n + 1 - next).toNat 64 : Nat) : Int) by omega]
        exact this
      · intro hx
        have hb := h.lo _ hx
        have hle : min (n + 1 - next).toNat 64 ≤ i := by omega
        refine ⟨hle, (h.bit _ (by omega)).2 ?_⟩
        rw [show next - 1 - ((i - min (n + 1 - next).toNat 64 : Nat) : Int) = n + 1 - 1 - (i : Int) by omega]
        exact hx

theorem Inv.down {next : Int} {m : Nat} {L : List Int} (h : Inv next m L) {n : Int} (h0 : 0 ≤ n) (h1 : n < next) (hk : known L n = false) :
    next - 1 - n < 64 ∧ Inv next (m ||| 2 ^ (next - 1 - n).toNat) (n :: L) := by
  have hd := h.has n h0
  rw [hk] at hd
  unfold hasB at hd
  simp only [Bool.or_eq_false_iff, decide_eq_false_iff_not] at hd
  have hlt : next - 1 - n < 64 := by omega
  refine ⟨hlt, h.n0, h.n1, ?_, ?_, ?_, ?_⟩
  · exact Nat.or_lt_two_pow h.m64 (Nat.pow_lt_pow_right (by decide) (by omega))
  · intro x hx
    rcases List.mem_cons.1 hx with rfl | hx
    · omega
    · exact h.lo x hx
  · rcases h.top with ht | ht
    · exact .inl ht
    · exact .inr (List.mem_cons_of_mem _ ht)
  · intro i hi
    rw [Nat.testBit_or, Nat.testBit_two_pow]
    simp only [Bool.or_eq_true, decide_eq_true_eq, List.mem_cons, h.bit i hi]
    constructor
    · rintro (hx | hx)
      · exact .inr hx
      · exact .inl (by omega)
    · rintro (hx | hx)
      · exact .inr (by omega)
      · exact .inl hx

/-- What Put answers: is a number new? -/
def freshB (L : List Int) (n : Int) : Bool := !known L n
def inB (n : Int) : Bool := decide (0 ≤ n) && decide (n ≤ 9007199254740991)
/-- The numbers that came, behind a Put. -/
def putL (L : List Int) (n : Int) : List Int := if inB n then n :: L else L

end Go.Proofs.Ytobcefgangkilaa.Sv
