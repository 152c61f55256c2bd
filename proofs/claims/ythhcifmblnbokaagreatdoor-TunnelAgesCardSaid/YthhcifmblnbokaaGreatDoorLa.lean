/- The table of the functions that are written out. -/
import Derived.Test.YthhcifmblnbokaaGreatDoorL1
import Derived.Test.YthhcifmblnbokaaGreatDoorL2
import Derived.Test.YthhcifmblnbokaaGreatDoorL3
import Derived.Test.YthhcifmblnbokaaGreatDoorL4
import Derived.Test.YthhcifmblnbokaaGreatDoorZc
import Derived.KernelRfl
import Derived.Test.YthhcifmblnbokaaGreatDoorXi
import Derived.Test.YthhcifmblnbokaaGreatDoorXj
set_option linter.all false
set_option maxRecDepth 100000
noncomputable section
namespace Go.X
open Go Go.RowKit Go.Proofs
inductive FT where
 | e
 | n (k : Nat) (v : FE) (l r : FT)
def FT.look (t : FT) (f : Nat) : Option FE:=FT.rec (motive:=fun _=>Option FE) none (fun k v _ _ il ir=>Bool.rec (Bool.rec ir il (Nat.ble f k)) (some v) (Nat.beq f k)) t
def FT.All (g : Nat → Option FE) : FT → Prop
 | .e=>True
 | .n k v l r=>g k = some v ∧ FT.All g l ∧ FT.All g r
theorem FT.look_ok {g : Nat → Option FE} : ∀ {t : FT},t.All g → ∀ {f : Nat} {F : FE},t.look f = some F → g f = some F
 | .e,_,f,F,h=>by cases h
 | .n k v l r,⟨h1,h2,h3⟩,f,F,h=>by
  have h4 : (Bool.rec (Bool.rec (FT.look r f) (FT.look l f) (Nat.ble f k)) (some v) (Nat.beq f k) : Option FE) = some F:=h
  cases hb : Nat.beq f k <;> rw [hb] at h4
  ·cases hl : Nat.ble f k <;> rw [hl] at h4
   ·exact FT.look_ok h3 h4
   ·exact FT.look_ok h2 h4
  ·cases h4
   rw [Nat.eq_of_beq_eq_true hb]; exact h1
def tbL : FT:=(.n 143 q143 (.n 75 q75 (.n 32 q32 (.n 17 q17 (.n 10 q10 (.n 6 q6 (.n 4 q4 (.n 3 q3 .e .e) (.n 5 q5 .e .e)) (.n 8 q8 (.n 7 q7 .e .e) (.n 9 q9 .e .e))) (.n 14 q14 (.n 12 q12 (.n 11 q11 .e .e) (.n 13 q13 .e .e)) (.n 16 q16 (.n 15 q15 .e .e) .e))) (.n 24 q24 (.n 21 q21 (.n 19 q19 (.n 18 q18 .e .e) (.n 20 q20 .e .e)) (.n 23 q23 (.n 22 q22 .e .e) .e)) (.n 29 q29 (.n 27 q27 (.n 26 q26 .e .e) (.n 28 q28 .e .e)) (.n 31 q31 (.n 30 q30 .e .e) .e)))) (.n 61 q61 (.n 41 q41 (.n 36 q36 (.n 34 q34 (.n 33 q33 .e .e) (.n 35 q35 .e .e)) (.n 38 q38 (.n 37 q37 .e .e) (.n 39 q39 .e .e))) (.n 49 q49 (.n 45 q45 (.n 44 q44 .e .e) (.n 46 q46 .e .e)) (.n 60 q60 (.n 59 q59 .e .e) .e))) (.n 68 q68 (.n 65 q65 (.n 63 q63 (.n 62 q62 .e .e) (.n 64 q64 .e .e)) (.n 67 q67 (.n 66 q66 .e .e) .e)) (.n 72 q72 (.n 70 q70 (.n 69 q69 .e .e) (.n 71 q71 .e .e)) (.n 74 q74 (.n 73 q73 .e .e) .e))))) (.n 115 q115 (.n 92 q92 (.n 83 q83 (.n 79 q79 (.n 77 q77 (.n 76 q76 .e .e) (.n 78 q78 .e .e)) (.n 81 q81 (.n 80 q80 .e .e) (.n 82 q82 .e .e))) (.n 87 q87 (.n 85 q85 (.n 84 q84 .e .e) (.n 86 q86 .e .e)) (.n 90 q90 (.n 88 q88 .e .e) .e))) (.n 108 q108 (.n 97 q97 (.n 94 q94 (.n 93 q93 .e .e) (.n 95 q95 .e .e)) (.n 107 q107 (.n 99 q99 .e .e) .e)) (.n 112 q112 (.n 110 q110 (.n 109 q109 .e .e) (.n 111 q111 .e .e)) (.n 114 q114 (.n 113 q113 .e .e) .e)))) (.n 129 q129 (.n 122 q122 (.n 119 q119 (.n 117 q117 (.n 116 q116 .e .e) (.n 118 q118 .e .e)) (.n 121 q121 (.n 120 q120 .e .e) .e)) (.n 126 q126 (.n 124 q124 (.n 123 q123 .e .e) (.n 125 q125 .e .e)) (.n 128 q128 (.n 127 q127 .e .e) .e))) (.n 136 q136 (.n 133 q133 (.n 131 q131 (.n 130 q130 .e .e) (.n 132 q132 .e .e)) (.n 135 q135 (.n 134 q134 .e .e) .e)) (.n 140 q140 (.n 138 q138 (.n 137 q137 .e .e) (.n 139 q139 .e .e)) (.n 142 q142 (.n 141 q141 .e .e) .e)))))) (.n 208 q208 (.n 174 q174 (.n 160 q160 (.n 153 q153 (.n 147 q147 (.n 145 q145 (.n 144 q144 .e .e) (.n 146 q146 .e .e)) (.n 149 q149 (.n 148 q148 .e .e) (.n 151 q151 .e .e))) (.n 157 q157 (.n 155 q155 (.n 154 q154 .e .e) (.n 156 q156 .e .e)) (.n 159 q159 (.n 158 q158 .e .e) .e))) (.n 167 q167 (.n 164 q164 (.n 162 q162 (.n 161 q161 .e .e) (.n 163 q163 .e .e)) (.n 166 q166 (.n 165 q165 .e .e) .e)) (.n 171 q171 (.n 169 q169 (.n 168 q168 .e .e) (.n 170 q170 .e .e)) (.n 173 q173 (.n 172 q172 .e .e) .e)))) (.n 194 q194 (.n 187 q187 (.n 183 q183 (.n 176 q176 (.n 175 q175 .e .e) (.n 177 q177 .e .e)) (.n 185 q185 (.n 184 q184 .e .e) (.n 186 q186 .e .e))) (.n 191 q191 (.n 189 q189 (.n 188 q188 .e .e) (.n 190 q190 .e .e)) (.n 193 q193 (.n 192 q192 .e .e) .e))) (.n 201 q201 (.n 198 q198 (.n 196 q196 (.n 195 q195 .e .e) (.n 197 q197 .e .e)) (.n 200 q200 (.n 199 q199 .e .e) .e)) (.n 205 q205 (.n 203 q203 (.n 202 q202 .e .e) (.n 204 q204 .e .e)) (.n 207 q207 (.n 206 q206 .e .e) .e))))) (.n 261 q261 (.n 223 q223 (.n 216 q216 (.n 212 q212 (.n 210 q210 (.n 209 q209 .e .e) (.n 211 q211 .e .e)) (.n 214 q214 (.n 213 q213 .e .e) (.n 215 q215 .e .e))) (.n 220 q220 (.n 218 q218 (.n 217 q217 .e .e) (.n 219 q219 .e .e)) (.n 222 q222 (.n 221 q221 .e .e) .e))) (.n 231 q231 (.n 228 q228 (.n 226 q226 (.n 225 q225 .e .e) (.n 227 q227 .e .e)) (.n 230 q230 (.n 229 q229 .e .e) .e)) (.n 247 q247 (.n 236 q236 (.n 232 q232 .e .e) (.n 245 q245 .e .e)) (.n 252 q252 (.n 249 q249 .e .e) .e)))) (.n 288 q288 (.n 270 q270 (.n 265 q265 (.n 263 q263 (.n 262 q262 .e .e) (.n 264 q264 .e .e)) (.n 269 q269 (.n 266 q266 .e .e) .e)) (.n 277 q277 (.n 272 q272 (.n 271 q271 .e .e) (.n 274 q274 .e .e)) (.n 279 q279 (.n 278 q278 .e .e) .e))) (.n 312 q312 (.n 306 q306 (.n 297 q297 (.n 296 q296 .e .e) (.n 305 q305 .e .e)) (.n 308 q308 (.n 307 q307 .e .e) .e)) (.n 324 q324 (.n 322 q322 (.n 321 q321 .e .e) (.n 323 q323 .e .e)) (.n 342 q342 (.n 334 q334 .e .e) .e)))))))
theorem tbL_ok : tbL.All (ftP Tryz.prog):=⟨by kernel_rfl,⟨by kernel_rfl,⟨by kernel_rfl,⟨by kernel_rfl,⟨by kernel_rfl,⟨by kernel_rfl,⟨by kernel_rfl,⟨by kernel_rfl,trivial,trivial⟩,⟨by kernel_rfl,trivial,trivial⟩⟩,⟨by kernel_rfl,⟨by kernel_rfl,trivial,trivial⟩,⟨by kernel_rfl,trivial,trivial⟩⟩⟩,⟨by kernel_rfl,⟨by kernel_rfl,⟨by kernel_rfl,trivial,trivial⟩,⟨by kernel_rfl,trivial,trivial⟩⟩,⟨by kernel_rfl,⟨by kernel_rfl,trivial,trivial⟩,trivial⟩⟩⟩,⟨by kernel_rfl,⟨by kernel_rfl,⟨by kernel_rfl,⟨by kernel_rfl,trivial,trivial⟩,⟨by kernel_rfl,trivial,trivial⟩⟩,⟨by kernel_rfl,⟨by kernel_rfl,trivial,trivial⟩,trivial⟩⟩,⟨by kernel_rfl,⟨by kernel_rfl,⟨by kernel_rfl,trivial,trivial⟩,⟨by kernel_rfl,trivial,trivial⟩⟩,⟨by kernel_rfl,⟨by kernel_rfl,trivial,trivial⟩,trivial⟩⟩⟩⟩,⟨by kernel_rfl,⟨by kernel_rfl,⟨by kernel_rfl,⟨by kernel_rfl,⟨by kernel_rfl,trivial,trivial⟩,⟨by kernel_rfl,trivial,trivial⟩⟩,⟨by kernel_rfl,⟨by kernel_rfl,trivial,trivial⟩,⟨by kernel_rfl,trivial,trivial⟩⟩⟩,⟨by kernel_rfl,⟨by kernel_rfl,⟨by kernel_rfl,trivial,trivial⟩,⟨by kernel_rfl,trivial,trivial⟩⟩,⟨by kernel_rfl,⟨by kernel_rfl,trivial,trivial⟩,trivial⟩⟩⟩,⟨by kernel_rfl,⟨by kernel_rfl,⟨by kernel_rfl,⟨by kernel_rfl,trivial,trivial⟩,⟨by kernel_rfl,trivial,trivial⟩⟩,⟨by kernel_rfl,⟨by kernel_rfl,trivial,trivial⟩,trivial⟩⟩,⟨by kernel_rfl,⟨by kernel_rfl,⟨by kernel_rfl,trivial,trivial⟩,⟨by kernel_rfl,trivial,trivial⟩⟩,⟨by kernel_rfl,⟨by kernel_rfl,trivial,trivial⟩,trivial⟩⟩⟩⟩⟩,⟨by kernel_rfl,⟨by kernel_rfl,⟨by kernel_rfl,⟨by kernel_rfl,⟨by kernel_rfl,⟨by kernel_rfl,trivial,trivial⟩,⟨by kernel_rfl,trivial,trivial⟩⟩,⟨by kernel_rfl,⟨by kernel_rfl,trivial,trivial⟩,⟨by kernel_rfl,trivial,trivial⟩⟩⟩,⟨by kernel_rfl,⟨by kernel_rfl,⟨by kernel_rfl,trivial,trivial⟩,⟨by kernel_rfl,trivial,trivial⟩⟩,⟨by kernel_rfl,⟨by kernel_rfl,trivial,trivial⟩,trivial⟩⟩⟩,⟨by kernel_rfl,⟨by kernel_rfl,⟨by kernel_rfl,⟨by kernel_rfl,trivial,trivial⟩,⟨by kernel_rfl,trivial,trivial⟩⟩,⟨by kernel_rfl,⟨by kernel_rfl,trivial,trivial⟩,trivial⟩⟩,⟨by kernel_rfl,⟨by kernel_rfl,⟨by kernel_rfl,trivial,trivial⟩,⟨by kernel_rfl,trivial,trivial⟩⟩,⟨by kernel_rfl,⟨by kernel_rfl,trivial,trivial⟩,trivial⟩⟩⟩⟩,⟨by kernel_rfl,⟨by kernel_rfl,⟨by kernel_rfl,⟨by kernel_rfl,⟨by kernel_rfl,trivial,trivial⟩,⟨by kernel_rfl,trivial,trivial⟩⟩,⟨by kernel_rfl,⟨by kernel_rfl,trivial,trivial⟩,trivial⟩⟩,⟨by kernel_rfl,⟨by kernel_rfl,⟨by kernel_rfl,trivial,trivial⟩,⟨by kernel_rfl,trivial,trivial⟩⟩,⟨by kernel_rfl,⟨by kernel_rfl,trivial,trivial⟩,trivial⟩⟩⟩,⟨by kernel_rfl,⟨by kernel_rfl,⟨by kernel_rfl,⟨by kernel_rfl,trivial,trivial⟩,⟨by kernel_rfl,trivial,trivial⟩⟩,⟨by kernel_rfl,⟨by kernel_rfl,trivial,trivial⟩,trivial⟩⟩,⟨by kernel_rfl,⟨by kernel_rfl,⟨by kernel_rfl,trivial,trivial⟩,⟨by kernel_rfl,trivial,trivial⟩⟩,⟨by kernel_rfl,⟨by kernel_rfl,trivial,trivial⟩,trivial⟩⟩⟩⟩⟩⟩,⟨by kernel_rfl,⟨by kernel_rfl,⟨by kernel_rfl,⟨by kernel_rfl,⟨by kernel_rfl,⟨by kernel_rfl,⟨by kernel_rfl,trivial,trivial⟩,⟨by kernel_rfl,trivial,trivial⟩⟩,⟨by kernel_rfl,⟨by kernel_rfl,trivial,trivial⟩,⟨by kernel_rfl,trivial,trivial⟩⟩⟩,⟨by kernel_rfl,⟨by kernel_rfl,⟨by kernel_rfl,trivial,trivial⟩,⟨by kernel_rfl,trivial,trivial⟩⟩,⟨by kernel_rfl,⟨by kernel_rfl,trivial,trivial⟩,trivial⟩⟩⟩,⟨by kernel_rfl,⟨by kernel_rfl,⟨by kernel_rfl,⟨by kernel_rfl,trivial,trivial⟩,⟨by kernel_rfl,trivial,trivial⟩⟩,⟨by kernel_rfl,⟨by kernel_rfl,trivial,trivial⟩,trivial⟩⟩,⟨by kernel_rfl,⟨by kernel_rfl,⟨by kernel_rfl,trivial,trivial⟩,⟨by kernel_rfl,trivial,trivial⟩⟩,⟨by kernel_rfl,⟨by kernel_rfl,trivial,trivial⟩,trivial⟩⟩⟩⟩,⟨by kernel_rfl,⟨by kernel_rfl,⟨by kernel_rfl,⟨by kernel_rfl,⟨by kernel_rfl,trivial,trivial⟩,⟨by kernel_rfl,trivial,trivial⟩⟩,⟨by kernel_rfl,⟨by kernel_rfl,trivial,trivial⟩,⟨by kernel_rfl,trivial,trivial⟩⟩⟩,⟨by kernel_rfl,⟨by kernel_rfl,⟨by kernel_rfl,trivial,trivial⟩,⟨by kernel_rfl,trivial,trivial⟩⟩,⟨by kernel_rfl,⟨by kernel_rfl,trivial,trivial⟩,trivial⟩⟩⟩,⟨by kernel_rfl,⟨by kernel_rfl,⟨by kernel_rfl,⟨by kernel_rfl,trivial,trivial⟩,⟨by kernel_rfl,trivial,trivial⟩⟩,⟨by kernel_rfl,⟨by kernel_rfl,trivial,trivial⟩,trivial⟩⟩,⟨by kernel_rfl,⟨by kernel_rfl,⟨by kernel_rfl,trivial,trivial⟩,⟨by kernel_rfl,trivial,trivial⟩⟩,⟨by kernel_rfl,⟨by kernel_rfl,trivial,trivial⟩,trivial⟩⟩⟩⟩⟩,⟨by kernel_rfl,⟨by kernel_rfl,⟨by kernel_rfl,⟨by kernel_rfl,⟨by kernel_rfl,⟨by kernel_rfl,trivial,trivial⟩,⟨by kernel_rfl,trivial,trivial⟩⟩,⟨by kernel_rfl,⟨by kernel_rfl,trivial,trivial⟩,⟨by kernel_rfl,trivial,trivial⟩⟩⟩,⟨by kernel_rfl,⟨by kernel_rfl,⟨by kernel_rfl,trivial,trivial⟩,⟨by kernel_rfl,trivial,trivial⟩⟩,⟨by kernel_rfl,⟨by kernel_rfl,trivial,trivial⟩,trivial⟩⟩⟩,⟨by kernel_rfl,⟨by kernel_rfl,⟨by kernel_rfl,⟨by kernel_rfl,trivial,trivial⟩,⟨by kernel_rfl,trivial,trivial⟩⟩,⟨by kernel_rfl,⟨by kernel_rfl,trivial,trivial⟩,trivial⟩⟩,⟨by kernel_rfl,⟨by kernel_rfl,⟨by kernel_rfl,trivial,trivial⟩,⟨by kernel_rfl,trivial,trivial⟩⟩,⟨by kernel_rfl,⟨by kernel_rfl,trivial,trivial⟩,trivial⟩⟩⟩⟩,⟨by kernel_rfl,⟨by kernel_rfl,⟨by kernel_rfl,⟨by kernel_rfl,⟨by kernel_rfl,trivial,trivial⟩,⟨by kernel_rfl,trivial,trivial⟩⟩,⟨by kernel_rfl,⟨by kernel_rfl,trivial,trivial⟩,trivial⟩⟩,⟨by kernel_rfl,⟨by kernel_rfl,⟨by kernel_rfl,trivial,trivial⟩,⟨by kernel_rfl,trivial,trivial⟩⟩,⟨by kernel_rfl,⟨by kernel_rfl,trivial,trivial⟩,trivial⟩⟩⟩,⟨by kernel_rfl,⟨by kernel_rfl,⟨by kernel_rfl,⟨by kernel_rfl,trivial,trivial⟩,⟨by kernel_rfl,trivial,trivial⟩⟩,⟨by kernel_rfl,⟨by kernel_rfl,trivial,trivial⟩,trivial⟩⟩,⟨by kernel_rfl,⟨by kernel_rfl,⟨by kernel_rfl,trivial,trivial⟩,⟨by kernel_rfl,trivial,trivial⟩⟩,⟨by kernel_rfl,⟨by kernel_rfl,trivial,trivial⟩,trivial⟩⟩⟩⟩⟩⟩⟩
def ftL : Nat → Option FE:=tbL.look
theorem G2k : G4h Tryz.prog (ttP Tryz.prog) ftL:=fun f F h=>Q2v f F (FT.look_ok tbL_ok h)
def G6p (bt : BT) (f : Nat) (vs : List V) (h : H) : RC:=U0y ftL bt (U5e ftL ltG bt 100000) f vs h
theorem J4j {bt : BT} (hb : BG bt) {f : Nat} {vs : List V} {h h' : H} {v : V} (hr : G6p bt f vs h = .ok v h') (n0 : Nat) : CallOK Tryz.prog (bsG n0) f vs h (.ok v h') :=
 Q2j J8k J4a G2k W2b (hb n0) hr
end Go.X
namespace Go.X
open Go Go.RowKit Go.Proofs
structure ME where
 vs : List V
 n : Nat
 L : List (Nat × O)
 v : V
 n' : Nat
 L' : List (Nat × O)
def seg (bt : BT) (f : Nat) (e : ME) : Bool :=
 RC.rec (motive:=fun _=>Bool) (fun v h=>Bool.rec false (Bool.rec false (ceq v e.v) (Nat.beq h.next e.n')) (J9n h e.L')) (fun _ _=>false) false (G6p bt f e.vs (J2v e.n e.L))
def memG (es : List ME) (vs : List V) (h : H) : Option (V × H) :=
 List.rec (motive:=fun _=>Option (V × H)) none (fun e _ ih=>Bool.rec ih (some (e.v,ovr h e.n' e.L e.L')) (Bool.rec false (Bool.rec false (J9n h e.L) (G4y vs e.vs)) (Nat.beq h.next e.n))) es
theorem G6m {bt : BT} (hb : BG bt) {f : Nat} {e : ME} (hs : seg bt f e = true) (n0 : Nat) {vs : List V} {h : H} (h1 : Nat.beq h.next e.n = true) (h2 : G4y vs e.vs = true) (h3 : J9n h e.L = true) : CallOK Tryz.prog (bsG n0) f vs h (.ok e.v (ovr h e.n' e.L e.L')):=by
 unfold seg at hs
 cases hr : G6p bt f e.vs (J2v e.n e.L) with
 | ok v hh =>
  rw [hr] at hs
  have hs2 : (Bool.rec false (Bool.rec false (ceq v e.v) (Nat.beq hh.next e.n')) (J9n hh e.L') : Bool) = true:=hs
  cases k1 : J9n hh e.L' <;> rw [k1] at hs2
  ·cases hs2
  cases k2 : Nat.beq hh.next e.n' <;> rw [k2] at hs2
  ·cases hs2
  exact (J4j hb hr n0).memo (Nat.eq_of_beq_eq_true k2) k1 hs2 (Nat.eq_of_beq_eq_true h1) h3 h2
 | pn v hh=>rw [hr] at hs; cases hs
 | bad=>rw [hr] at hs; cases hs
def AllS (bt : BT) (f : Nat) : List ME → Prop
 | []=>True
 | e::es=>seg bt f e = true ∧ AllS bt f es
theorem J6s {bt : BT} (hb : BG bt) {f : Nat} (n0 : Nat) : ∀ {es : List ME},AllS bt f es → ∀ {vs : List V} {h h' : H} {v : V},memG es vs h = some (v,h') → CallOK Tryz.prog (bsG n0) f vs h (.ok v h')
 | [],_,vs,h,h',v,he=>by cases he
 | e::es,⟨hs,hes⟩,vs,h,h',v,he=>by
  have he2 : (Bool.rec (memG es vs h) (some (e.v,ovr h e.n' e.L e.L')) (Bool.rec false (Bool.rec false (J9n h e.L) (G4y vs e.vs)) (Nat.beq h.next e.n)) : Option (V × H)) = some (v,h'):=he
  cases k1 : Nat.beq h.next e.n <;> rw [k1] at he2
  ·exact J6s hb n0 hes he2
  cases k2 : G4y vs e.vs <;> rw [k2] at he2
  ·exact J6s hb n0 hes he2
  cases k3 : J9n h e.L <;> rw [k3] at he2
  ·exact J6s hb n0 hes he2
  cases he2
  exact G6m hb hs n0 k1 k2 k3
theorem BG.memo {bt bt' : BT} (hb' : BG bt') (hb : BG bt) {f : Nat} {es : List ME} (hs : AllS bt f es) : BG (btC f (.h (memG es)) bt'):=by
 refine hb'.cons fun n0 vs h v h' he=>?_
 have he2 : rcO (memG es vs h) = .ok v h':=he
 cases hm : memG es vs h with
 | none=>rw [hm] at he2; cases he2
 | some r =>
  obtain ⟨v1,h1⟩:=r
  rw [hm] at he2
  cases he2
  exact J6s hb n0 hs hm
def bs (l : List Nat) (r : List V) : List V:=List.rec (motive:=fun _=>List V) r (fun x _ ih=>.i .u8 (.ofNat x)::ih) l
def ii (n : Nat) : V:=.i .i64 (.ofNat n)
def iu (n : Nat) : V:=.i .u64 (.ofNat n)
def ir (n : Nat) : V:=.i .i32 (.ofNat n)
def ib (n : Nat) : V:=.i .u8 (.ofNat n)
def cl (l : List V) : C:=C.puts l 0 .e
end Go.X
namespace Go.X
open Go Go.RowKit Go.Proofs
def okO (x : RC) : Option (V × H):=RC.rec (motive:=fun _=>Option (V × H)) (fun v h=>some (v,h)) (fun _ _=>none) none x
theorem W1t {x : RC} {v : V} {h : H} (e : okO x = some (v,h)) : x = .ok v h:=by
 cases x with
 | ok v' h'=>cases e; rfl
 | pn _ _=>cases e
 | bad=>cases e
def btB : BT:=btC 268 (.p blkG) (btC 273 (.h twoG) (btC 267 (.h prsF) (btC 182 (.p m64R) (btC 106 (.p a64R) (btC 326 (.p ixbG) (btC 246 (.h cmpG) (fun _=>none)))))))
theorem btB_ok : BG btB:=((((((BG.nil.cons Q7u).p Q7b).p Q8m).p Q6o).cons Q4x).cons Q3x).p Q7y
def W1c (vs : List V) (h : H) : Option (V × H):=match U6b vs h with | some r=>some r | none=>W1a vs h
theorem W6s (n0 : Nat) (vs : List V) (h : H) (v : V) (h' : H) (he : rcB (.h W1c) vs h = .ok v h') : CallOK Tryz.prog (bsG n0) 296 vs h (.ok v h'):=by
 have he2 : rcO (W1c vs h) = .ok v h':=he
 unfold W1c at he2
 split at he2
 ·rename_i r hr
  exact W6r n0 vs h v h' (by show rcO (U6b vs h) = _; rw [hr]; exact he2)
 ·cases hx : W1a vs h with
  | none=>rw [hx] at he2; cases he2
  | some r =>
   obtain ⟨v1,h1⟩:=r
   rw [hx] at he2
   cases he2
   exact W6q n0 vs h v h' hx
def numF (vs : List V) (h : H) : Option (V × H):=match numG vs h with | some r=>some r | none=>okO (G6p btB 305 vs h)
theorem Q6j (n0 : Nat) (vs : List V) (h : H) (v : V) (h' : H) (he : rcB (.h numF) vs h = .ok v h') : CallOK Tryz.prog (bsG n0) 305 vs h (.ok v h'):=by
 have he2 : rcO (numF vs h) = .ok v h':=he
 unfold numF at he2
 split at he2
 ·rename_i r hr
  obtain ⟨v1,h1⟩:=r
  cases he2
  exact Q6i n0 vs h v h' hr
 ·cases hx : okO (G6p btB 305 vs h) with
  | none=>rw [hx] at he2; cases he2
  | some r =>
   obtain ⟨v1,h1⟩:=r
   rw [hx] at he2
   cases he2
   exact J4j btB_ok (W1t hx) n0
def btS : BT:=btC 25 (.p xG) (btC 296 (.h W1c) (btC 305 (.h numF) btB))
theorem btS_ok : BG btS:=((btB_ok.cons Q6j).cons W6s).p xG_ok
end Go.X
namespace Go.X
open Go Go.RowKit Go.Proofs
def kyP (l : List Nat) : Nat → List (Nat × V) → List (Nat × V):=List.rec (motive:=fun _=>Nat → List (Nat × V) → List (Nat × V)) (fun _ r=>r) (fun x _ ih j r=>(j,ib x)::ih (Nat.add j 1) r) l
def kyV (l : List Nat) (r : List V) : List V:=List.rec (motive:=fun _=>List V) r (fun x _ ih=>ib x::ih) l
def spS (k : Nat) : List (Nat × PC):=Nat.rec (motive:=fun _=>List (Nat × PC)) [] (fun i ih=>(i,.p (Nat.add i 1))::ih) k
def ky0 : List Nat:=[41,121,206,225,237,6,5,205,106,254,216,115,210,201,164,55,128,226,62,64,230,242,168,66,224,62,255,64,110,133,47,107]
def ky1 : List Nat:=[167,79,182,73,34,36,37,196,220,232,227,71,154,210,160,45,20,239,111,28,226,36,132,188,221,190,219,94,28,237,172,26]
def ky2 : List Nat:=[80,200,238,145,110,35,182,81,191,15,153,119,114,44,196,7,221,107,122,82,34,23,105,207,37,166,31,130,73,147,133,101]
def oN1 : PN × PO:=(.a 3,.cells 166 [(1,(.p 125 0)),(78,(.sl 292 0 2 36 false)),(157,(.m 126)),(160,.b true)] [(161,.t 1 0 true),(163,.t 0 0 true)] true [161,163])
def oB1 : PN × PO:=(.a 104,.cells 5 [(0,(ii 1)),(3,(.m 329)),(4,(.m 330))] [(1,.t 0 0 true)] true [1])
def oP1 : PN × PO:=(.a 117,.ob (.map [((ii 2),(.p 880 0))] [0] 1))
def oQ1 : PN × PO:=(.a 880,.cells 36 (kyP ky0 0 [(32,.pn)]) [] true [])
def oA1 : PN × PO:=(.a 292,.cells 72 [(0,(ii 2)),(33,(ii 100000)),(36,(ii 3)),(69,(ii 100000))] [] true [])
def oK1 : PN × PO:=(.a 329,.ob (.map [((.ag (kyV ky0 [])),(ii 2)),((.ag (kyV ky1 [])),(ii 3))] [0,1] 2))
def oM1 : PN × PO:=(.a 330,.ob (.map [((ii 2),(.ag ((ii 2)::kyV ky0 [(ii 100000),(.sl 333 0 1 2 false),(.sl 335 0 1 2 false)]))),((ii 3),(.ag ((ii 3)::kyV ky1 [(ii 100000),(.sl 338 0 1 2 false),(.sl 340 0 1 2 false)])))] [0,1] 2))
def oS1 (i : Nat) : PN × PO:=(.r (Nat.add i 1),.cells 41 ((2,(ii 2))::kyP ky0 3 []) [(38,.t (Nat.add i 2) 0 false)] true [])
def oT1 (k : Nat) : PN × PO:=(.a 125,.cells 74 [(67,(.p 104 0)),(69,(.m 117)),(72,.sn),(73,.sn)] [(65,.t 0 0 true),(68,.sl 0 k 1 false)] true [65])
def oL1 (v : List V) (bs : List Nat) (cl : Nat) : PN × PO:=(.a 126,.mp v bs cl)
def sk1 (k : Nat) (r : List (PN × PO)) : List (PN × PO):=Nat.rec (motive:=fun _=>List (PN × PO)) r (fun i ih=>oS1 i::ih) k
def W8c : SE:=⟨[.p 3 0,ii 1],[(.a 125,68),(.r 0,0)],(.a 3,163),(.a 3,161),[(.r 1,38)],oT1 1::oL1 [ii 2] [0] 1::oN1::oB1::oP1::oQ1::oA1::oK1::oM1::(.r 0,.cells 1 [] (spS 1) true [])::sk1 1 [],.tu []⟩
def W8b : SE:=⟨[.p 3 0,ii 1],[(.a 125,68),(.r 0,0)],(.a 3,163),(.a 3,161),[(.r 1,38)],oT1 1::oL1 [ii 2] [1] 2::oN1::oB1::oP1::oQ1::oA1::oK1::oM1::(.r 0,.cells 2 [(1,.pn)] (spS 1) true [])::sk1 1 [],.tu []⟩
def W8a : SE:=⟨[.p 3 0,ii 1],[(.a 125,68),(.r 0,0)],(.a 3,163),(.a 3,161),[(.r 1,38)],oT1 1::oL1 [ii 2] [2] 3::oN1::oB1::oP1::oQ1::oA1::oK1::oM1::(.r 0,.cells 2 [(1,.pn)] (spS 1) true [])::sk1 1 [],.tu []⟩
def W7z : SE:=⟨[.p 3 0,ii 1],[(.a 125,68),(.r 0,0)],(.a 3,163),(.a 3,161),[(.r 1,38)],oT1 1::oL1 [ii 2] [3] 4::oN1::oB1::oP1::oQ1::oA1::oK1::oM1::(.r 0,.cells 2 [(1,.pn)] (spS 1) true [])::sk1 1 [],.tu []⟩
def W7y : SE:=⟨[.p 3 0,ii 1],[(.a 125,68),(.r 0,0)],(.a 3,163),(.a 3,161),[(.r 1,38)],oT1 1::oL1 [ii 2] [4] 5::oN1::oB1::oP1::oQ1::oA1::oK1::oM1::(.r 0,.cells 2 [(1,.pn)] (spS 1) true [])::sk1 1 [],.tu []⟩
def W7x : SE:=⟨[.p 3 0,ii 1],[(.a 125,68),(.r 0,0),(.r 0,1)],(.a 3,163),(.a 3,161),[(.r 1,38),(.r 2,38)],oT1 2::oL1 [ii 2,ii 2] [0,1] 2::oN1::oB1::oP1::oQ1::oA1::oK1::oM1::(.r 0,.cells 2 [] (spS 2) true [])::sk1 2 [],.tu []⟩
def W7w : SE:=⟨[.p 3 0,ii 1],[(.a 125,68),(.r 0,0),(.r 0,1)],(.a 3,163),(.a 3,161),[(.r 1,38),(.r 2,38)],oT1 2::oL1 [ii 2,ii 2] [1,2] 3::oN1::oB1::oP1::oQ1::oA1::oK1::oM1::(.r 0,.cells 2 [] (spS 2) true [])::sk1 2 [],.tu []⟩
def W7v : SE:=⟨[.p 3 0,ii 1],[(.a 125,68),(.r 0,0),(.r 0,1)],(.a 3,163),(.a 3,161),[(.r 1,38),(.r 2,38)],oT1 2::oL1 [ii 2,ii 2] [2,3] 4::oN1::oB1::oP1::oQ1::oA1::oK1::oM1::(.r 0,.cells 2 [] (spS 2) true [])::sk1 2 [],.tu []⟩
def W7u : SE:=⟨[.p 3 0,ii 1],[(.a 125,68),(.r 0,0),(.r 0,1)],(.a 3,163),(.a 3,161),[(.r 1,38),(.r 2,38)],oT1 2::oL1 [ii 2,ii 2] [3,4] 5::oN1::oB1::oP1::oQ1::oA1::oK1::oM1::(.r 0,.cells 2 [] (spS 2) true [])::sk1 2 [],.tu []⟩
def W8e : SE:=⟨[.p 3 0,ii 1],[(.a 125,68)],(.a 3,163),(.a 3,161),[],oT1 0::oL1 [] [] 4::oN1::oB1::oP1::oQ1::oM1::(.r 0,.cells 2 [(0,.pn),(1,.pn)] (spS 0) true [])::sk1 0 [],.tu []⟩
def W8d : SE:=⟨[.p 3 0,ii 1],[(.a 125,68)],(.a 3,163),(.a 3,161),[],oT1 0::oL1 [] [] 5::oN1::oB1::oP1::oQ1::oM1::(.r 0,.cells 2 [(0,.pn),(1,.pn)] (spS 0) true [])::sk1 0 [],.tu []⟩
def oN2 : PN × PO:=(.a 3,.cells 166 [(2,(.p 372 0)),(115,(.sl 539 0 2 36 false)),(158,(.m 373)),(160,.b true)] [(161,.t 1 0 true),(164,.t 0 0 true)] true [161,164])
def oB2 : PN × PO:=(.a 351,.cells 5 [(0,(ii 2)),(3,(.m 576)),(4,(.m 577))] [(1,.t 0 0 true)] true [1])
def oP2 : PN × PO:=(.a 364,.ob (.map [((ii 1),(.p 1862 0))] [0] 1))
def oQ2 : PN × PO:=(.a 1862,.cells 36 (kyP ky2 0 [(32,.pn)]) [] true [])
def oA2 : PN × PO:=(.a 539,.cells 72 [(0,(ii 1)),(33,(ii 100000)),(36,(ii 3)),(69,(ii 100000))] [] true [])
def oK2 : PN × PO:=(.a 576,.ob (.map [((.ag (kyV ky2 [])),(ii 1)),((.ag (kyV ky1 [])),(ii 3))] [0,1] 2))
def oM2 : PN × PO:=(.a 577,.ob (.map [((ii 1),(.ag ((ii 1)::kyV ky2 [(ii 100000),(.sl 580 0 1 2 false),(.sl 582 0 1 2 false)]))),((ii 3),(.ag ((ii 3)::kyV ky1 [(ii 100000),(.sl 585 0 1 2 false),(.sl 587 0 1 2 false)])))] [0,1] 2))
def oS2 (i : Nat) : PN × PO:=(.r (Nat.add i 1),.cells 41 ((2,(ii 1))::kyP ky2 3 []) [(38,.t (Nat.add i 2) 0 false)] true [])
def oT2 (k : Nat) : PN × PO:=(.a 372,.cells 74 [(67,(.p 351 0)),(69,(.m 364)),(72,.sn),(73,.sn)] [(65,.t 0 0 true),(68,.sl 0 k 1 false)] true [65])
def oL2 (v : List V) (bs : List Nat) (cl : Nat) : PN × PO:=(.a 373,.mp v bs cl)
def sk2 (k : Nat) (r : List (PN × PO)) : List (PN × PO):=Nat.rec (motive:=fun _=>List (PN × PO)) r (fun i ih=>oS2 i::ih) k
def W7r : SE:=⟨[.p 3 0,ii 2],[(.a 372,68),(.r 0,0)],(.a 3,164),(.a 3,161),[(.r 1,38)],oT2 1::oL2 [ii 1] [0] 1::oN2::oB2::oP2::oQ2::oA2::oK2::oM2::(.r 0,.cells 1 [] (spS 1) true [])::sk2 1 [],.tu []⟩
def W7q : SE:=⟨[.p 3 0,ii 2],[(.a 372,68),(.r 0,0)],(.a 3,164),(.a 3,161),[(.r 1,38)],oT2 1::oL2 [ii 1] [1] 2::oN2::oB2::oP2::oQ2::oA2::oK2::oM2::(.r 0,.cells 2 [(1,.pn)] (spS 1) true [])::sk2 1 [],.tu []⟩
def W7p : SE:=⟨[.p 3 0,ii 2],[(.a 372,68),(.r 0,0)],(.a 3,164),(.a 3,161),[(.r 1,38)],oT2 1::oL2 [ii 1] [2] 3::oN2::oB2::oP2::oQ2::oA2::oK2::oM2::(.r 0,.cells 2 [(1,.pn)] (spS 1) true [])::sk2 1 [],.tu []⟩
def W7o : SE:=⟨[.p 3 0,ii 2],[(.a 372,68),(.r 0,0)],(.a 3,164),(.a 3,161),[(.r 1,38)],oT2 1::oL2 [ii 1] [3] 4::oN2::oB2::oP2::oQ2::oA2::oK2::oM2::(.r 0,.cells 2 [(1,.pn)] (spS 1) true [])::sk2 1 [],.tu []⟩
def W7n : SE:=⟨[.p 3 0,ii 2],[(.a 372,68),(.r 0,0)],(.a 3,164),(.a 3,161),[(.r 1,38)],oT2 1::oL2 [ii 1] [4] 5::oN2::oB2::oP2::oQ2::oA2::oK2::oM2::(.r 0,.cells 2 [(1,.pn)] (spS 1) true [])::sk2 1 [],.tu []⟩
def W7m : SE:=⟨[.p 3 0,ii 2],[(.a 372,68),(.r 0,0),(.r 0,1)],(.a 3,164),(.a 3,161),[(.r 1,38),(.r 2,38)],oT2 2::oL2 [ii 1,ii 1] [0,1] 2::oN2::oB2::oP2::oQ2::oA2::oK2::oM2::(.r 0,.cells 2 [] (spS 2) true [])::sk2 2 [],.tu []⟩
def W7l : SE:=⟨[.p 3 0,ii 2],[(.a 372,68),(.r 0,0),(.r 0,1)],(.a 3,164),(.a 3,161),[(.r 1,38),(.r 2,38)],oT2 2::oL2 [ii 1,ii 1] [1,2] 3::oN2::oB2::oP2::oQ2::oA2::oK2::oM2::(.r 0,.cells 2 [] (spS 2) true [])::sk2 2 [],.tu []⟩
def W7k : SE:=⟨[.p 3 0,ii 2],[(.a 372,68),(.r 0,0),(.r 0,1)],(.a 3,164),(.a 3,161),[(.r 1,38),(.r 2,38)],oT2 2::oL2 [ii 1,ii 1] [2,3] 4::oN2::oB2::oP2::oQ2::oA2::oK2::oM2::(.r 0,.cells 2 [] (spS 2) true [])::sk2 2 [],.tu []⟩
def W7j : SE:=⟨[.p 3 0,ii 2],[(.a 372,68),(.r 0,0),(.r 0,1)],(.a 3,164),(.a 3,161),[(.r 1,38),(.r 2,38)],oT2 2::oL2 [ii 1,ii 1] [3,4] 5::oN2::oB2::oP2::oQ2::oA2::oK2::oM2::(.r 0,.cells 2 [] (spS 2) true [])::sk2 2 [],.tu []⟩
def W7t : SE:=⟨[.p 3 0,ii 2],[(.a 372,68)],(.a 3,164),(.a 3,161),[],oT2 0::oL2 [] [] 4::oN2::oB2::oP2::oQ2::oM2::(.r 0,.cells 2 [(0,.pn),(1,.pn)] (spS 0) true [])::sk2 0 [],.tu []⟩
def W7s : SE:=⟨[.p 3 0,ii 2],[(.a 372,68)],(.a 3,164),(.a 3,161),[],oT2 0::oL2 [] [] 5::oN2::oB2::oP2::oQ2::oM2::(.r 0,.cells 2 [(0,.pn),(1,.pn)] (spS 0) true [])::sk2 0 [],.tu []⟩
def oN3 : PN × PO:=(.a 3,.cells 166 [(3,(.p 619 0)),(152,(.sl 779 0 2 36 false)),(159,(.m 620)),(160,.b true)] [(161,.t 1 0 true),(165,.t 0 0 true)] true [161,165])
def oB3 : PN × PO:=(.a 598,.cells 5 [(0,(ii 3)),(3,(.m 823)),(4,(.m 824))] [(1,.t 0 0 true)] true [1])
def oP3 : PN × PO:=(.a 611,.ob (.map [] [] 0))
def se3 : SE:=⟨[.p 3 0,ii 3],[],(.a 3,165),(.a 3,161),[],[oN3,(.a 619,.cells 74 [(67,(.p 598 0)),(69,(.m 611)),(72,.sn),(73,.sn),(68,.sn)] [(65,.t 0 0 true)] true [65]),oB3,oP3,(.a 620,.mp [] [] 0)],.tu []⟩
def J8z (e : SE) : Prop:=∀ x : Nat → Nat → V,seOb (G6p btS 41 e.vs (e.h0 x)) e.os = some (e.v,G0h x e.os)
theorem W4b : J8z W8c:=fun x=>by kernel_rfl
theorem W4a : J8z W8b:=fun x=>by kernel_rfl
theorem W3z : J8z W8a:=fun x=>by kernel_rfl
theorem W3y : J8z W7z:=fun x=>by kernel_rfl
theorem W3x : J8z W7y:=fun x=>by kernel_rfl
theorem W3w : J8z W7x:=fun x=>by kernel_rfl
theorem W3v : J8z W7w:=fun x=>by kernel_rfl
theorem W3u : J8z W7v:=fun x=>by kernel_rfl
theorem W3t : J8z W7u:=fun x=>by kernel_rfl
theorem W4d : J8z W8e:=fun x=>by kernel_rfl
theorem W4c : J8z W8d:=fun x=>by kernel_rfl
theorem W3q : J8z W7r:=fun x=>by kernel_rfl
theorem W3p : J8z W7q:=fun x=>by kernel_rfl
theorem W3o : J8z W7p:=fun x=>by kernel_rfl
theorem W3n : J8z W7o:=fun x=>by kernel_rfl
theorem W3m : J8z W7n:=fun x=>by kernel_rfl
theorem W3l : J8z W7m:=fun x=>by kernel_rfl
theorem W3k : J8z W7l:=fun x=>by kernel_rfl
theorem W3j : J8z W7k:=fun x=>by kernel_rfl
theorem W3i : J8z W7j:=fun x=>by kernel_rfl
theorem W3s : J8z W7t:=fun x=>by kernel_rfl
theorem W3r : J8z W7s:=fun x=>by kernel_rfl
theorem se3_ok : J8z se3:=fun x=>by kernel_rfl
theorem SE.of {e : SE} (hb : e.okB = true) (hv : e.v = .tu []) (hs : J8z e) (n0 : Nat) : e.Ok Tryz.prog (bsG n0) 41 :=
 ⟨hb,by rw [hv]; exact VP.tu0,fun x=>by
  obtain ⟨h1,e1,e2⟩:=W7i (hs x)
  exact ⟨h1,J4j btS_ok e1 n0,e2⟩⟩
def esT : List SE:=[W8c,W8b,W8a,W7z,W7y,W7x,W7w,W7v,W7u,W8e,W8d,W7r,W7q,W7p,W7o,W7n,W7m,W7l,W7k,W7j,W7t,W7s,se3]
theorem esT_ok (n0 : Nat) : AllE Tryz.prog (bsG n0) 41 esT:=⟨SE.of (by kernel_rfl) rfl W4b n0,SE.of (by kernel_rfl) rfl W4a n0,SE.of (by kernel_rfl) rfl W3z n0,SE.of (by kernel_rfl) rfl W3y n0,SE.of (by kernel_rfl) rfl W3x n0,SE.of (by kernel_rfl) rfl W3w n0,SE.of (by kernel_rfl) rfl W3v n0,SE.of (by kernel_rfl) rfl W3u n0,SE.of (by kernel_rfl) rfl W3t n0,SE.of (by kernel_rfl) rfl W4d n0,SE.of (by kernel_rfl) rfl W4c n0,SE.of (by kernel_rfl) rfl W3q n0,SE.of (by kernel_rfl) rfl W3p n0,SE.of (by kernel_rfl) rfl W3o n0,SE.of (by kernel_rfl) rfl W3n n0,SE.of (by kernel_rfl) rfl W3m n0,SE.of (by kernel_rfl) rfl W3l n0,SE.of (by kernel_rfl) rfl W3k n0,SE.of (by kernel_rfl) rfl W3j n0,SE.of (by kernel_rfl) rfl W3i n0,SE.of (by kernel_rfl) rfl W3s n0,SE.of (by kernel_rfl) rfl W3r n0,SE.of (by kernel_rfl) rfl se3_ok n0,trivial⟩
def G5w (vs : List V) (h : H) : Option (V × H):=match seG esT vs h with | some r=>some r | none=>okO (G6p btS 41 vs h)
theorem G5v (n0 : Nat) (vs : List V) (h : H) (v : V) (h' : H) (he : rcB (.h G5w) vs h = .ok v h') : CallOK Tryz.prog (bsG n0) 41 vs h (.ok v h'):=by
 have he2 : rcO (G5w vs h) = .ok v h':=he
 unfold G5w at he2
 cases hr : seG esT vs h with
 | some r =>
  obtain ⟨v1,h1⟩:=r
  rw [hr] at he2
  cases he2
  exact W1h (esT_ok n0) hr
 | none =>
  rw [hr] at he2
  simp only at he2
  cases hx : okO (G6p btS 41 vs h) with
  | none=>rw [hx] at he2; cases he2
  | some r =>
   obtain ⟨v1,h1⟩:=r
   rw [hx] at he2
   cases he2
   exact J4j btS_ok (W1t hx) n0
def btT : BT:=btC 41 (.h G5w) btS
theorem U1d : BG btT:=btS_ok.cons G5v
end Go.X
end
