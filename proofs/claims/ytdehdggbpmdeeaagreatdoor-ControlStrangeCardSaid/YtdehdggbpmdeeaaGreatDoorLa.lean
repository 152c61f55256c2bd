/- The table of the functions that are written out. -/
import Derived.Test.YtdehdggbpmdeeaaGreatDoorL1
import Derived.Test.YtdehdggbpmdeeaaGreatDoorL2
import Derived.Test.YtdehdggbpmdeeaaGreatDoorL3
import Derived.Test.YtdehdggbpmdeeaaGreatDoorL4
import Derived.Test.YtdehdggbpmdeeaaGreatDoorZc
import Derived.Test.YtdehdggbpmdeeaaGreatDoorXi
set_option linter.all false
set_option maxRecDepth 100000
namespace Go.X
open Go Go.RowKit Go.Proofs
inductive FT where
 | e
 | n (k : Nat) (v : FE) (l r : FT)
noncomputable def FT.look (t : FT) (f : Nat) : Option FE:=FT.rec (motive:=fun _=>Option FE) none (fun k v _ _ il ir=>Bool.rec (Bool.rec ir il (Nat.ble f k)) (some v) (Nat.beq f k)) t
def FT.All (p : Nat → FE → Prop) : FT → Prop
 | .e=>True
 | .n k v l r=>p k v ∧ FT.All p l ∧ FT.All p r
theorem FT.look_ok {p : Nat → FE → Prop} : ∀ {t : FT},t.All p → ∀ {f : Nat} {F : FE},t.look f = some F → p f F
 | .e,_,f,F,h=>by cases h
 | .n k v l r,⟨h1,h2,h3⟩,f,F,h=>by
  have h4 : (Bool.rec (Bool.rec (FT.look r f) (FT.look l f) (Nat.ble f k)) (some v) (Nat.beq f k) : Option FE) = some F:=h
  cases hb : Nat.beq f k <;> rw [hb] at h4
  ·cases hl : Nat.ble f k <;> rw [hl] at h4
   ·exact FT.look_ok h3 h4
   ·exact FT.look_ok h2 h4
  ·cases h4
   rw [Nat.eq_of_beq_eq_true hb]; exact h1
noncomputable def tbL : FT:=(.n 131 q131 (.n 65 q65 (.n 32 q32 (.n 17 q17 (.n 10 q10 (.n 6 q6 (.n 4 q4 (.n 3 q3 .e .e) (.n 5 q5 .e .e)) (.n 8 q8 (.n 7 q7 .e .e) (.n 9 q9 .e .e))) (.n 14 q14 (.n 12 q12 (.n 11 q11 .e .e) (.n 13 q13 .e .e)) (.n 16 q16 (.n 15 q15 .e .e) .e))) (.n 25 q25 (.n 21 q21 (.n 19 q19 (.n 18 q18 .e .e) (.n 20 q20 .e .e)) (.n 23 q23 (.n 22 q22 .e .e) .e)) (.n 29 q29 (.n 27 q27 (.n 26 q26 .e .e) (.n 28 q28 .e .e)) (.n 31 q31 (.n 30 q30 .e .e) .e)))) (.n 48 q48 (.n 40 q40 (.n 36 q36 (.n 34 q34 (.n 33 q33 .e .e) (.n 35 q35 .e .e)) (.n 38 q38 (.n 37 q37 .e .e) (.n 39 q39 .e .e))) (.n 45 q45 (.n 43 q43 (.n 41 q41 .e .e) (.n 44 q44 .e .e)) (.n 47 q47 (.n 46 q46 .e .e) .e))) (.n 58 q58 (.n 55 q55 (.n 52 q52 (.n 49 q49 .e .e) (.n 54 q54 .e .e)) (.n 57 q57 (.n 56 q56 .e .e) .e)) (.n 62 q62 (.n 60 q60 (.n 59 q59 .e .e) (.n 61 q61 .e .e)) (.n 64 q64 (.n 63 q63 .e .e) .e))))) (.n 102 q102 (.n 80 q80 (.n 73 q73 (.n 69 q69 (.n 67 q67 (.n 66 q66 .e .e) (.n 68 q68 .e .e)) (.n 71 q71 (.n 70 q70 .e .e) (.n 72 q72 .e .e))) (.n 77 q77 (.n 75 q75 (.n 74 q74 .e .e) (.n 76 q76 .e .e)) (.n 79 q79 (.n 78 q78 .e .e) .e))) (.n 95 q95 (.n 84 q84 (.n 82 q82 (.n 81 q81 .e .e) (.n 83 q83 .e .e)) (.n 86 q86 (.n 85 q85 .e .e) .e)) (.n 99 q99 (.n 97 q97 (.n 96 q96 .e .e) (.n 98 q98 .e .e)) (.n 101 q101 (.n 100 q100 .e .e) .e)))) (.n 117 q117 (.n 109 q109 (.n 106 q106 (.n 104 q104 (.n 103 q103 .e .e) (.n 105 q105 .e .e)) (.n 108 q108 (.n 107 q107 .e .e) .e)) (.n 114 q114 (.n 112 q112 (.n 110 q110 .e .e) (.n 113 q113 .e .e)) (.n 116 q116 (.n 115 q115 .e .e) .e))) (.n 124 q124 (.n 121 q121 (.n 119 q119 (.n 118 q118 .e .e) (.n 120 q120 .e .e)) (.n 123 q123 (.n 122 q122 .e .e) .e)) (.n 128 q128 (.n 126 q126 (.n 125 q125 .e .e) (.n 127 q127 .e .e)) (.n 130 q130 (.n 129 q129 .e .e) .e)))))) (.n 212 q212 (.n 172 q172 (.n 153 q153 (.n 139 q139 (.n 135 q135 (.n 133 q133 (.n 132 q132 .e .e) (.n 134 q134 .e .e)) (.n 137 q137 (.n 136 q136 .e .e) (.n 138 q138 .e .e))) (.n 143 q143 (.n 141 q141 (.n 140 q140 .e .e) (.n 142 q142 .e .e)) (.n 152 q152 (.n 151 q151 .e .e) .e))) (.n 160 q160 (.n 157 q157 (.n 155 q155 (.n 154 q154 .e .e) (.n 156 q156 .e .e)) (.n 159 q159 (.n 158 q158 .e .e) .e)) (.n 164 q164 (.n 162 q162 (.n 161 q161 .e .e) (.n 163 q163 .e .e)) (.n 166 q166 (.n 165 q165 .e .e) .e)))) (.n 197 q197 (.n 182 q182 (.n 179 q179 (.n 177 q177 (.n 176 q176 .e .e) (.n 178 q178 .e .e)) (.n 181 q181 (.n 180 q180 .e .e) .e)) (.n 194 q194 (.n 192 q192 (.n 191 q191 .e .e) (.n 193 q193 .e .e)) (.n 196 q196 (.n 195 q195 .e .e) .e))) (.n 204 q204 (.n 201 q201 (.n 199 q199 (.n 198 q198 .e .e) (.n 200 q200 .e .e)) (.n 203 q203 (.n 202 q202 .e .e) .e)) (.n 208 q208 (.n 206 q206 (.n 205 q205 .e .e) (.n 207 q207 .e .e)) (.n 210 q210 (.n 209 q209 .e .e) .e))))) (.n 257 q257 (.n 234 q234 (.n 222 q222 (.n 218 q218 (.n 215 q215 (.n 213 q213 .e .e) (.n 217 q217 .e .e)) (.n 220 q220 (.n 219 q219 .e .e) (.n 221 q221 .e .e))) (.n 231 q231 (.n 224 q224 (.n 223 q223 .e .e) (.n 230 q230 .e .e)) (.n 233 q233 (.n 232 q232 .e .e) .e))) (.n 248 q248 (.n 244 q244 (.n 241 q241 (.n 235 q235 .e .e) (.n 243 q243 .e .e)) (.n 246 q246 (.n 245 q245 .e .e) .e)) (.n 252 q252 (.n 250 q250 (.n 249 q249 .e .e) (.n 251 q251 .e .e)) (.n 254 q254 (.n 253 q253 .e .e) .e)))) (.n 287 q287 (.n 271 q271 (.n 262 q262 (.n 260 q260 (.n 258 q258 .e .e) (.n 261 q261 .e .e)) (.n 270 q270 (.n 264 q264 .e .e) .e)) (.n 278 q278 (.n 273 q273 (.n 272 q272 .e .e) (.n 277 q277 .e .e)) (.n 286 q286 (.n 285 q285 .e .e) .e))) (.n 301 q301 (.n 293 q293 (.n 289 q289 (.n 288 q288 .e .e) (.n 290 q290 .e .e)) (.n 299 q299 (.n 297 q297 .e .e) .e)) (.n 306 q306 (.n 304 q304 (.n 302 q302 .e .e) (.n 305 q305 .e .e)) (.n 320 q320 (.n 315 q315 .e .e) .e)))))))
theorem tbL_ok : tbL.All fun k v=>ftP Tryz.prog k = some v:=⟨q131_ok,⟨q65_ok,⟨q32_ok,⟨q17_ok,⟨q10_ok,⟨q6_ok,⟨q4_ok,⟨q3_ok,trivial,trivial⟩,⟨q5_ok,trivial,trivial⟩⟩,⟨q8_ok,⟨q7_ok,trivial,trivial⟩,⟨q9_ok,trivial,trivial⟩⟩⟩,⟨q14_ok,⟨q12_ok,⟨q11_ok,trivial,trivial⟩,⟨q13_ok,trivial,trivial⟩⟩,⟨q16_ok,⟨q15_ok,trivial,trivial⟩,trivial⟩⟩⟩,⟨q25_ok,⟨q21_ok,⟨q19_ok,⟨q18_ok,trivial,trivial⟩,⟨q20_ok,trivial,trivial⟩⟩,⟨q23_ok,⟨q22_ok,trivial,trivial⟩,trivial⟩⟩,⟨q29_ok,⟨q27_ok,⟨q26_ok,trivial,trivial⟩,⟨q28_ok,trivial,trivial⟩⟩,⟨q31_ok,⟨q30_ok,trivial,trivial⟩,trivial⟩⟩⟩⟩,⟨q48_ok,⟨q40_ok,⟨q36_ok,⟨q34_ok,⟨q33_ok,trivial,trivial⟩,⟨q35_ok,trivial,trivial⟩⟩,⟨q38_ok,⟨q37_ok,trivial,trivial⟩,⟨q39_ok,trivial,trivial⟩⟩⟩,⟨q45_ok,⟨q43_ok,⟨q41_ok,trivial,trivial⟩,⟨q44_ok,trivial,trivial⟩⟩,⟨q47_ok,⟨q46_ok,trivial,trivial⟩,trivial⟩⟩⟩,⟨q58_ok,⟨q55_ok,⟨q52_ok,⟨q49_ok,trivial,trivial⟩,⟨q54_ok,trivial,trivial⟩⟩,⟨q57_ok,⟨q56_ok,trivial,trivial⟩,trivial⟩⟩,⟨q62_ok,⟨q60_ok,⟨q59_ok,trivial,trivial⟩,⟨q61_ok,trivial,trivial⟩⟩,⟨q64_ok,⟨q63_ok,trivial,trivial⟩,trivial⟩⟩⟩⟩⟩,⟨q102_ok,⟨q80_ok,⟨q73_ok,⟨q69_ok,⟨q67_ok,⟨q66_ok,trivial,trivial⟩,⟨q68_ok,trivial,trivial⟩⟩,⟨q71_ok,⟨q70_ok,trivial,trivial⟩,⟨q72_ok,trivial,trivial⟩⟩⟩,⟨q77_ok,⟨q75_ok,⟨q74_ok,trivial,trivial⟩,⟨q76_ok,trivial,trivial⟩⟩,⟨q79_ok,⟨q78_ok,trivial,trivial⟩,trivial⟩⟩⟩,⟨q95_ok,⟨q84_ok,⟨q82_ok,⟨q81_ok,trivial,trivial⟩,⟨q83_ok,trivial,trivial⟩⟩,⟨q86_ok,⟨q85_ok,trivial,trivial⟩,trivial⟩⟩,⟨q99_ok,⟨q97_ok,⟨q96_ok,trivial,trivial⟩,⟨q98_ok,trivial,trivial⟩⟩,⟨q101_ok,⟨q100_ok,trivial,trivial⟩,trivial⟩⟩⟩⟩,⟨q117_ok,⟨q109_ok,⟨q106_ok,⟨q104_ok,⟨q103_ok,trivial,trivial⟩,⟨q105_ok,trivial,trivial⟩⟩,⟨q108_ok,⟨q107_ok,trivial,trivial⟩,trivial⟩⟩,⟨q114_ok,⟨q112_ok,⟨q110_ok,trivial,trivial⟩,⟨q113_ok,trivial,trivial⟩⟩,⟨q116_ok,⟨q115_ok,trivial,trivial⟩,trivial⟩⟩⟩,⟨q124_ok,⟨q121_ok,⟨q119_ok,⟨q118_ok,trivial,trivial⟩,⟨q120_ok,trivial,trivial⟩⟩,⟨q123_ok,⟨q122_ok,trivial,trivial⟩,trivial⟩⟩,⟨q128_ok,⟨q126_ok,⟨q125_ok,trivial,trivial⟩,⟨q127_ok,trivial,trivial⟩⟩,⟨q130_ok,⟨q129_ok,trivial,trivial⟩,trivial⟩⟩⟩⟩⟩⟩,⟨q212_ok,⟨q172_ok,⟨q153_ok,⟨q139_ok,⟨q135_ok,⟨q133_ok,⟨q132_ok,trivial,trivial⟩,⟨q134_ok,trivial,trivial⟩⟩,⟨q137_ok,⟨q136_ok,trivial,trivial⟩,⟨q138_ok,trivial,trivial⟩⟩⟩,⟨q143_ok,⟨q141_ok,⟨q140_ok,trivial,trivial⟩,⟨q142_ok,trivial,trivial⟩⟩,⟨q152_ok,⟨q151_ok,trivial,trivial⟩,trivial⟩⟩⟩,⟨q160_ok,⟨q157_ok,⟨q155_ok,⟨q154_ok,trivial,trivial⟩,⟨q156_ok,trivial,trivial⟩⟩,⟨q159_ok,⟨q158_ok,trivial,trivial⟩,trivial⟩⟩,⟨q164_ok,⟨q162_ok,⟨q161_ok,trivial,trivial⟩,⟨q163_ok,trivial,trivial⟩⟩,⟨q166_ok,⟨q165_ok,trivial,trivial⟩,trivial⟩⟩⟩⟩,⟨q197_ok,⟨q182_ok,⟨q179_ok,⟨q177_ok,⟨q176_ok,trivial,trivial⟩,⟨q178_ok,trivial,trivial⟩⟩,⟨q181_ok,⟨q180_ok,trivial,trivial⟩,trivial⟩⟩,⟨q194_ok,⟨q192_ok,⟨q191_ok,trivial,trivial⟩,⟨q193_ok,trivial,trivial⟩⟩,⟨q196_ok,⟨q195_ok,trivial,trivial⟩,trivial⟩⟩⟩,⟨q204_ok,⟨q201_ok,⟨q199_ok,⟨q198_ok,trivial,trivial⟩,⟨q200_ok,trivial,trivial⟩⟩,⟨q203_ok,⟨q202_ok,trivial,trivial⟩,trivial⟩⟩,⟨q208_ok,⟨q206_ok,⟨q205_ok,trivial,trivial⟩,⟨q207_ok,trivial,trivial⟩⟩,⟨q210_ok,⟨q209_ok,trivial,trivial⟩,trivial⟩⟩⟩⟩⟩,⟨q257_ok,⟨q234_ok,⟨q222_ok,⟨q218_ok,⟨q215_ok,⟨q213_ok,trivial,trivial⟩,⟨q217_ok,trivial,trivial⟩⟩,⟨q220_ok,⟨q219_ok,trivial,trivial⟩,⟨q221_ok,trivial,trivial⟩⟩⟩,⟨q231_ok,⟨q224_ok,⟨q223_ok,trivial,trivial⟩,⟨q230_ok,trivial,trivial⟩⟩,⟨q233_ok,⟨q232_ok,trivial,trivial⟩,trivial⟩⟩⟩,⟨q248_ok,⟨q244_ok,⟨q241_ok,⟨q235_ok,trivial,trivial⟩,⟨q243_ok,trivial,trivial⟩⟩,⟨q246_ok,⟨q245_ok,trivial,trivial⟩,trivial⟩⟩,⟨q252_ok,⟨q250_ok,⟨q249_ok,trivial,trivial⟩,⟨q251_ok,trivial,trivial⟩⟩,⟨q254_ok,⟨q253_ok,trivial,trivial⟩,trivial⟩⟩⟩⟩,⟨q287_ok,⟨q271_ok,⟨q262_ok,⟨q260_ok,⟨q258_ok,trivial,trivial⟩,⟨q261_ok,trivial,trivial⟩⟩,⟨q270_ok,⟨q264_ok,trivial,trivial⟩,trivial⟩⟩,⟨q278_ok,⟨q273_ok,⟨q272_ok,trivial,trivial⟩,⟨q277_ok,trivial,trivial⟩⟩,⟨q286_ok,⟨q285_ok,trivial,trivial⟩,trivial⟩⟩⟩,⟨q301_ok,⟨q293_ok,⟨q289_ok,⟨q288_ok,trivial,trivial⟩,⟨q290_ok,trivial,trivial⟩⟩,⟨q299_ok,⟨q297_ok,trivial,trivial⟩,trivial⟩⟩,⟨q306_ok,⟨q304_ok,⟨q302_ok,trivial,trivial⟩,⟨q305_ok,trivial,trivial⟩⟩,⟨q320_ok,⟨q315_ok,trivial,trivial⟩,trivial⟩⟩⟩⟩⟩⟩⟩
noncomputable def ftL : Nat → Option FE:=tbL.look
theorem ftL_ok : FTok Tryz.prog (ttP Tryz.prog) ftL:=fun f F h=>ftG_ok f F (FT.look_ok (p:=fun k v=>ftP Tryz.prog k = some v) tbL_ok h)
noncomputable def runL (bt : BT) (f : Nat) (vs : List V) (h : H) : RC:=callF ftL bt (exec ftL ltG bt 100000) f vs h
theorem runL_call {bt : BT} (hb : BG bt) {f : Nat} {vs : List V} {h h' : H} {v : V} (hr : runL bt f vs h = .ok v h') (n0 : Nat) : CallOK Tryz.prog (bsG n0) f vs h (.ok v h') :=
 run_ok ttG_ok mixed_ok ftL_ok ltG_ok (hb n0) hr
end Go.X
namespace Go.X
open Go Go.RowKit Go.Proofs
structure ME where
 vs : List V
 n : Nat
 L : List (Nat × O)
 v : V
 n' : Nat
 L' : List (Nat × O)
noncomputable def seg (bt : BT) (f : Nat) (e : ME) : Bool :=
 RC.rec (motive:=fun _=>Bool) (fun v h=>Bool.rec false (Bool.rec false (ceq v e.v) (Nat.beq h.next e.n')) (subO h e.L')) (fun _ _=>false) false (runL bt f e.vs (litH e.n e.L))
noncomputable def memG (es : List ME) (vs : List V) (h : H) : Option (V × H) :=
 List.rec (motive:=fun _=>Option (V × H)) none (fun e _ ih=>Bool.rec ih (some (e.v,ovr h e.n' e.L e.L')) (Bool.rec false (Bool.rec false (subO h e.L) (ceqs vs e.vs)) (Nat.beq h.next e.n))) es
theorem seg_call {bt : BT} (hb : BG bt) {f : Nat} {e : ME} (hs : seg bt f e = true) (n0 : Nat) {vs : List V} {h : H} (h1 : Nat.beq h.next e.n = true) (h2 : ceqs vs e.vs = true) (h3 : subO h e.L = true) : CallOK Tryz.prog (bsG n0) f vs h (.ok e.v (ovr h e.n' e.L e.L')):=by
 unfold seg at hs
 cases hr : runL bt f e.vs (litH e.n e.L) with
 | ok v hh =>
  rw [hr] at hs
  have hs2 : (Bool.rec false (Bool.rec false (ceq v e.v) (Nat.beq hh.next e.n')) (subO hh e.L') : Bool) = true:=hs
  cases k1 : subO hh e.L' <;> rw [k1] at hs2
  ·cases hs2
  cases k2 : Nat.beq hh.next e.n' <;> rw [k2] at hs2
  ·cases hs2
  exact (runL_call hb hr n0).memo (Nat.eq_of_beq_eq_true k2) k1 hs2 (Nat.eq_of_beq_eq_true h1) h3 h2
 | pn v hh=>rw [hr] at hs; cases hs
 | bad=>rw [hr] at hs; cases hs
def AllS (bt : BT) (f : Nat) : List ME → Prop
 | []=>True
 | e::es=>seg bt f e = true ∧ AllS bt f es
theorem memG_call {bt : BT} (hb : BG bt) {f : Nat} (n0 : Nat) : ∀ {es : List ME},AllS bt f es → ∀ {vs : List V} {h h' : H} {v : V},memG es vs h = some (v,h') → CallOK Tryz.prog (bsG n0) f vs h (.ok v h')
 | [],_,vs,h,h',v,he=>by cases he
 | e::es,⟨hs,hes⟩,vs,h,h',v,he=>by
  have he2 : (Bool.rec (memG es vs h) (some (e.v,ovr h e.n' e.L e.L')) (Bool.rec false (Bool.rec false (subO h e.L) (ceqs vs e.vs)) (Nat.beq h.next e.n)) : Option (V × H)) = some (v,h'):=he
  cases k1 : Nat.beq h.next e.n <;> rw [k1] at he2
  ·exact memG_call hb n0 hes he2
  cases k2 : ceqs vs e.vs <;> rw [k2] at he2
  ·exact memG_call hb n0 hes he2
  cases k3 : subO h e.L <;> rw [k3] at he2
  ·exact memG_call hb n0 hes he2
  cases he2
  exact seg_call hb hs n0 k1 k2 k3
theorem BG.memo {bt bt' : BT} (hb' : BG bt') (hb : BG bt) {f : Nat} {es : List ME} (hs : AllS bt f es) : BG (btC f (.h (memG es)) bt'):=by
 refine hb'.cons fun n0 vs h v h' he=>?_
 have he2 : rcO (memG es vs h) = .ok v h':=he
 cases hm : memG es vs h with
 | none=>rw [hm] at he2; cases he2
 | some r =>
  obtain ⟨v1,h1⟩:=r
  rw [hm] at he2
  cases he2
  exact memG_call hb n0 hs hm
noncomputable def bs (l : List Nat) (r : List V) : List V:=List.rec (motive:=fun _=>List V) r (fun x _ ih=>.i .u8 (.ofNat x)::ih) l
noncomputable def ii (n : Nat) : V:=.i .i64 (.ofNat n)
noncomputable def iu (n : Nat) : V:=.i .u64 (.ofNat n)
noncomputable def iw (n : Nat) : V:=.i .u32 (.ofNat n)
noncomputable def ir (n : Nat) : V:=.i .i32 (.ofNat n)
noncomputable def ib (n : Nat) : V:=.i .u8 (.ofNat n)
noncomputable def cl (l : List V) : C:=C.puts l 0 .e
end Go.X
namespace Go.X
open Go Go.RowKit Go.Proofs
noncomputable def keyN : V → Option Nat
 | .i .i64 (.ofNat n)=>Bool.rec none (some n) (Nat.ble n 9223372036854775807)
 | _=>none
noncomputable def insO (n : Nat) : List Nat → Option (List Nat)
 | []=>some [n]
 | x::l=>Bool.rec (Bool.rec (Option.map (x::·) (insO n l)) none (Nat.beq n x)) (some (n::x::l)) (Nat.ble (Nat.succ n) x)
noncomputable def srtO : List (V × V) → Option (List Nat)
 | []=>some []
 | e::es=>match keyN e.1,srtO es with
  | some n,some l=>insO n l
  | _,_=>none
noncomputable def mapI (l : List Nat) : List V:=l.map fun n=>.i .i64 (.ofNat n)
noncomputable def srtM (h : H) (r : Nat) : Option (V × H) :=
 match h.get r with
 | .map es=>(match srtO es with
  | some (x::l)=>Bool.rec none (some (.sl h.next 0 (l.length + 1) 1 false,h.new (.cells (l.length + 1) (C.puts (mapI (x::l)) 0 .e) true))) (Nat.ble l.length 1000000)
  | some []=>some (.sn,h.new .dead)
  | none=>none)
 | _=>none
noncomputable def insG (l : List V) (h : H) : Option (V × H) :=
 match l with
 | [.p b o]=>(match h.get b with
  | .cells n c _=>Bool.rec none (match C.at_ c o with
    | .b x=>Bool.rec (some (.sn,h)) (match C.at_ c (o + 35) with | .m r=>srtM (h.rsv 1) r | _=>none) x
    | _=>none) (Nat.ble (o + 36) n)
  | _=>none)
 | _=>none
noncomputable def btS : BT:=btC 42 (.p xG) (btC 247 (.p blkG) (btC 216 (.h twoG) (btC 256 (.h threeG) (btC 255 (.h prsF) (btC 214 (.p m64R) (btC 150 (.p a64R) (btC 308 (.p ixbG) (btC 8 (.h insG) (btC 190 (.h cmpG) ((fun _=>none)))))))))))
end Go.X
namespace Go.X
open Go Go.RowKit Go.Proofs
noncomputable def o0 : O:=.cells 6 (cl [(.b true),(ii 4),(ii 0),(.sl 133 0 3 35 false),.sn,(.s [97,108,108,111,119,32,42,32,62,32,42,32,42])]) true
noncomputable def o1 : O:=.cells 17 (cl [(.p 6 0),.pn,(.p 72 0),(.p 106 0),(.p 143 0),(.p 0 0),(.sl 140 0 4 5 false),.sn,.sn,(ii 0),(ii 0),(ii 0),(ii 0),(.b true),(ii 0),(ii 0),(ii 1)]) true
noncomputable def o2 : O:=.map []
noncomputable def o3 : O:=.cells 36 (cl ((.b true)::(bs [7,0,7,0,0,0,0,0,0,0,0,0,0,0,0,0,0,0,0,0,0,0,0,0,0,0,0,0,0,0,0,0] [(ii 1),(.m 4),(.m 5)]))) true
noncomputable def o4 : O:=.cells 35 (cl ((ii 1)::(bs [67,170,72,171,60,230,29,165,115,50,126,76,252,146,222,220,17,19,73,221,76,66,224,210,137,90,205,103,225,230,75,114] [(ii 100001),(.b false)]))) true
noncomputable def o5 : O:=.cells 38 (cl ((ii 1)::(bs [7,1,7,0,0,0,0,0,0,0,0,0,0,0,0,0,0,0,0,0,0,0,0,0,0,0,0,0,0,0,0,0] [(ii 0),.pn,.pn,(ii 0),.pn]))) true
noncomputable def o6 : O:=.cells 70 (cl ((ii 1)::(bs [67,170,72,171,60,230,29,165,115,50,126,76,252,146,222,220,17,19,73,221,76,66,224,210,137,90,205,103,225,230,75,114] ((ii 100001)::((.b false)::((ii 2)::(bs [60,237,156,47,143,81,229,126,62,132,121,172,55,83,150,29,196,219,30,108,22,96,163,102,150,121,121,42,230,39,19,24] [(ii 100002),(.b false)]))))))) true
noncomputable def o7 : O:=.cells 38 (cl ((ii 2)::(bs [7,2,7,0,0,0,0,0,0,0,0,0,0,0,0,0,0,0,0,0,0,0,0,0,0,0,0,0,0,0,0,0] [(ii 0),.pn,.pn,(ii 0),.pn]))) true
noncomputable def o8 : O:=.cells 105 (cl ((ii 1)::(bs [67,170,72,171,60,230,29,165,115,50,126,76,252,146,222,220,17,19,73,221,76,66,224,210,137,90,205,103,225,230,75,114] ((ii 100001)::((.b false)::((ii 2)::(bs [60,237,156,47,143,81,229,126,62,132,121,172,55,83,150,29,196,219,30,108,22,96,163,102,150,121,121,42,230,39,19,24] ((ii 100002)::((.b false)::((ii 3)::(bs [178,179,232,21,235,68,48,6,140,10,56,72,208,158,206,230,142,65,3,158,24,237,181,225,254,78,185,62,86,80,88,53] [(ii 100003),(.b false)]))))))))))) true
noncomputable def o9 : O:=.cells 20 (cl [(ii 1),(ii 0),.sn,.sn,(.s [97,108,108,111,119,32,42,32,62,32,42,32,42]),(ii 2),(ii 0),(.sl 67 0 1 35 false),.sn,(.s [97,108,108,111,119,32,42,32,62,32,42,32,42]),(ii 3),(ii 0),(.sl 101 0 2 35 false),.sn,(.s [97,108,108,111,119,32,42,32,62,32,42,32,42]),(ii 4),(ii 0),(.sl 138 0 3 35 false),.sn,(.s [97,108,108,111,119,32,42,32,62,32,42,32,42])]) true
noncomputable def o10 : O:=.cells 38 (cl ((ii 3)::(bs [7,3,7,0,0,0,0,0,0,0,0,0,0,0,0,0,0,0,0,0,0,0,0,0,0,0,0,0,0,0,0,0] [(ii 0),.pn,.pn,(ii 0),.pn]))) true
noncomputable def o11 : O:=.cells 17 (cl [(.p 6 0),.pn,(.p 72 0),(.p 106 0),(.p 143 0),(.p 0 0),(.sl 140 0 4 5 false),(.sl 413 0 1 2 false),.sn,(ii 0),(ii 0),(ii 0),(ii 0),(.b true),(ii 1),(ii 1),(ii 1)]) true
noncomputable def o12 : O:=.cells 38 (cl ((ii 1)::(bs [7,1,7,0,0,0,0,0,0,0,0,0,0,0,0,0,0,0,0,0,0,0,0,0,0,0,0,0,0,0,0,0] [(ii 0),.pn,(.p 206 0),(ii 1),.pn]))) true
noncomputable def o13 : O:=.cells 230 (cl (bs [0,153,232,93,148,134,185,202,45,94,66,144,252,191,146,177,0,2,66,146,58,70,34,208,55,151,121,84,134,210,107,68,196,141,78,68,150,60,136,85,249,31,163,181,43,189,150,47,58,105,246,100,1,52,26,4,114,194,99,151,86,168,111,195,234,42,75,178,91,195,244,185,238,237,13,176,41,168,114,41,156,188,135,255,53,229,221,202,136,172,77,62,69,87,176,22] ((ii 1)::((.b true)::((ii 1)::((.b true)::(bs [7,1,7,0,0,0,0,0,0,0,0,0,0,0,0,0,0,0,0,0,0,0,0,0,0,0,0,0,0,0,0,0,0,0,0,0,0,0,0,0,0,0,0,0,0,0,0,0,0,0,0,0,0,0,0,0,0,0,0,0,0,0,0,0,3,1,0,0,0,0,0,0,0,0,0,0,0,0,0,0,0,0,0,0,0,0,0,0,0,0,0,0,0,0,0,0] ((.p 222 0)::(bs [0,0,0,0,0,0,0,0,0,0,0,0,0,0,0,0,0,0,0,0,0,0,0,0,0,0,0,0,0,0,0,0] [(ii 1)]))))))))) true
noncomputable def o14 : O:=.cells 32 (cl (bs [228,203,149,39,61,11,26,234,175,34,232,49,191,141,14,238,77,39,187,184,224,169,162,98,162,166,245,138,144,0,77,102] [])) true
noncomputable def o15 : O:=.cells 119 (cl (bs [1,0,0,0,0,0,0,1,7,85,74,148,128,191,42,133,152,109,129,9,208,165,115,202,102,232,229,16,57,61,46,232,81,24,188,237,104,162,158,21,22,62,67,248,225,9,88,8,9,92,238,55,187,12,51,172,105,150,74,15,21,8,7,1,225,228,208,57,22,93,221,252,100,166,177,22,15,88,60,118,53,184,56,113,3,73,66,13,98,47,173,185,245,71,182,122,134,214,101,7,101,86,121,232,83,226,6,160,168,31,253,229,0,53,205,75,165,35,196] [])) true
noncomputable def o16 : O:=.cells 2 (cl [(ii 21),(.sl 411 0 119 1 false)]) true
noncomputable def o17 : O:=.cells 17 (cl [(.p 6 0),.pn,(.p 72 0),(.p 106 0),(.p 143 0),(.p 0 0),(.sl 140 0 4 5 false),(.sl 629 0 2 2 false),.sn,(ii 0),(ii 0),(ii 0),(ii 0),(.b true),(ii 2),(ii 2),(ii 1)]) true
noncomputable def o18 : O:=.cells 38 (cl ((ii 2)::(bs [7,2,7,0,0,0,0,0,0,0,0,0,0,0,0,0,0,0,0,0,0,0,0,0,0,0,0,0,0,0,0,0] [(ii 0),.pn,(.p 422 0),(ii 2),.pn]))) true
noncomputable def o19 : O:=.cells 230 (cl (bs [165,250,30,140,210,72,116,206,149,121,228,19,41,112,120,228,253,186,81,252,16,148,179,196,21,197,251,84,198,233,242,188,200,87,101,252,87,171,219,44,23,82,115,73,195,67,153,8,94,8,89,239,19,60,50,230,216,117,217,213,203,47,241,87,65,64,81,17,118,201,192,250,89,232,86,10,73,243,189,30,27,132,96,181,140,12,216,217,144,91,252,97,219,120,160,222] ((ii 1)::((.b true)::((ii 1)::((.b true)::(bs [7,2,7,0,0,0,0,0,0,0,0,0,0,0,0,0,0,0,0,0,0,0,0,0,0,0,0,0,0,0,0,0,0,0,0,0,0,0,0,0,0,0,0,0,0,0,0,0,0,0,0,0,0,0,0,0,0,0,0,0,0,0,0,0,3,2,0,0,0,0,0,0,0,0,0,0,0,0,0,0,0,0,0,0,0,0,0,0,0,0,0,0,0,0,0,0] ((.p 438 0)::(bs [0,0,0,0,0,0,0,0,0,0,0,0,0,0,0,0,0,0,0,0,0,0,0,0,0,0,0,0,0,0,0,0] [(ii 1)]))))))))) true
noncomputable def o20 : O:=.cells 119 (cl (bs [1,0,0,0,0,0,0,2,173,51,213,226,193,254,165,112,143,114,3,215,89,163,130,111,61,247,177,254,115,252,125,116,147,190,166,160,79,181,209,84,7,91,186,153,87,95,145,83,189,148,145,98,136,43,126,201,31,165,56,199,73,238,220,142,190,30,186,121,107,192,162,219,138,205,186,214,240,68,51,63,9,192,22,225,181,178,70,94,207,103,63,76,187,83,40,186,242,196,78,195,103,251,216,252,156,252,165,171,164,131,199,92,13,236,96,34,207,187,100] [])) true
noncomputable def o21 : O:=.cells 4 (cl [(ii 21),(.sl 411 0 119 1 false),(ii 22),(.sl 627 0 119 1 false)]) true
noncomputable def o22 : O:=.cells 17 (cl [(.p 6 0),.pn,(.p 72 0),(.p 106 0),(.p 143 0),(.p 0 0),(.sl 140 0 4 5 false),(.sl 845 0 3 2 false),.sn,(ii 0),(ii 0),(ii 0),(ii 0),(.b true),(ii 3),(ii 3),(ii 1)]) true
noncomputable def o23 : O:=.cells 38 (cl ((ii 3)::(bs [7,3,7,0,0,0,0,0,0,0,0,0,0,0,0,0,0,0,0,0,0,0,0,0,0,0,0,0,0,0,0,0] [(ii 0),.pn,(.p 638 0),(ii 3),.pn]))) true
noncomputable def o24 : O:=.cells 230 (cl (bs [139,243,157,67,184,173,161,23,160,105,51,79,54,85,121,224,15,240,251,154,167,127,154,26,253,70,152,52,238,221,6,141,42,243,5,247,33,185,241,30,73,162,252,146,188,23,148,228,211,245,179,209,210,151,48,227,4,94,117,111,97,124,80,210,26,51,117,41,180,239,93,237,151,46,78,185,140,223,220,5,39,65,4,103,80,236,251,105,230,123,247,65,53,64,155,227] ((ii 1)::((.b true)::((ii 1)::((.b true)::(bs [7,3,7,0,0,0,0,0,0,0,0,0,0,0,0,0,0,0,0,0,0,0,0,0,0,0,0,0,0,0,0,0,0,0,0,0,0,0,0,0,0,0,0,0,0,0,0,0,0,0,0,0,0,0,0,0,0,0,0,0,0,0,0,0,3,3,0,0,0,0,0,0,0,0,0,0,0,0,0,0,0,0,0,0,0,0,0,0,0,0,0,0,0,0,0,0] ((.p 654 0)::(bs [0,0,0,0,0,0,0,0,0,0,0,0,0,0,0,0,0,0,0,0,0,0,0,0,0,0,0,0,0,0,0,0] [(ii 1)]))))))))) true
noncomputable def o25 : O:=.cells 119 (cl (bs [1,0,0,0,0,0,0,3,243,252,55,252,148,253,197,106,231,56,194,142,2,11,198,89,203,17,67,232,33,229,48,198,178,69,211,97,89,143,34,40,201,206,160,65,244,68,203,189,47,104,213,119,10,146,129,35,66,231,134,130,111,214,52,109,242,11,207,192,37,78,186,80,63,155,58,128,212,12,100,178,255,58,182,54,77,244,46,82,169,176,172,193,187,107,184,36,157,87,68,15,7,92,104,88,1,196,36,82,89,139,234,12,170,7,244,248,106,118,16] [])) true
noncomputable def o26 : O:=.cells 6 (cl [(ii 21),(.sl 411 0 119 1 false),(ii 22),(.sl 627 0 119 1 false),(ii 23),(.sl 843 0 119 1 false)]) true
noncomputable def o27 : O:=.cells 17 (cl [(.p 6 0),.pn,(.p 72 0),(.p 106 0),(.p 143 0),(.p 0 0),(.sl 140 0 4 5 false),(.sl 902 0 2 2 false),(.sl 1595 0 1 2 false),(ii 0),(ii 0),(ii 0),(ii 0),(.b true),(ii 4),(ii 3),(ii 1)]) true
noncomputable def o28 : O:=.map [((ii 1),(ii 1))]
noncomputable def o29 : O:=.map [((ii 1),(.p 1576 0))]
noncomputable def o30 : O:=.cells 4 (cl [(ii 22),(.sl 627 0 119 1 false),(ii 23),(.sl 843 0 119 1 false)]) true
noncomputable def o31 : O:=.cells 2 (cl [(ii 0),(ii 65535)]) true
noncomputable def o32 : O:=.cells 72 (cl ((ii 2)::(bs [60,237,156,47,143,81,229,126,62,132,121,172,55,83,150,29,196,219,30,108,22,96,163,102,150,121,121,42,230,39,19,24] ((ii 100002)::((.sl 1276 0 1 2 false)::((.sl 1283 0 1 2 false)::((ii 3)::(bs [178,179,232,21,235,68,48,6,140,10,56,72,208,158,206,230,142,65,3,158,24,237,181,225,254,78,185,62,86,80,88,53] [(ii 100003),(.sl 1318 0 1 2 false),(.sl 1325 0 1 2 false)])))))))) true
noncomputable def o33 : O:=.cells 34 (cl ((.b true)::(bs [20,126,20,211,89,146,57,189,218,82,118,183,57,44,52,145,151,88,169,100,181,217,212,171,5,109,90,204,13,153,41,174] [(ii 0)]))) true
noncomputable def o34 : O:=.cells 34 (cl ((.b true)::(bs [107,252,229,7,157,139,151,178,250,106,116,26,112,227,156,103,96,115,243,96,217,132,92,119,61,166,112,251,55,161,35,62] [(ii 0)]))) true
noncomputable def o35 : O:=.cells 3 (cl [(.b true),(ii 0),(iu 0)]) true
noncomputable def o36 : O:=.cells 76 (cl ((ii 1)::((ii 1)::((.p 1572 0)::((.p 1574 0)::((.p 1575 0)::((ii 21)::(bs [67,170,72,171,60,230,29,165,115,50,126,76,252,146,222,220,17,19,73,221,76,66,224,210,137,90,205,103,225,230,75,114] ((ii 4)::((ii 0)::((ii 1)::(bs [67,170,72,171,60,230,29,165,115,50,126,76,252,146,222,220,17,19,73,221,76,66,224,210,137,90,205,103,225,230,75,114] [(ii 100001),(.sl 1327 0 2 36 false),.pn])))))))))))) true
noncomputable def o37 : O:=.cells 218 (cl (bs [2,0,0,0,0,0,0,1,0,0,0,0,0,0,1,154,124,57,63,133,19,123,62,229,18,123,107,60,37,23,144,136,239,138,16,152,67,226,159,207,233,185,81,113,195,242,26,33,81,6,62,142,85,205,196,3,255,27,218,64,178,52,228,242,4,233,234,137,131,118,77,219,3,212,93,202,80,109,79,118,87,137,161,82,126,3,103,8,156,182,18,139,31,153,254,190,199,75,43,90,166,49,54,114,120,180,158,117,68,21,208,133,127,114,53,24,17,238,114,245,119,233,85,190,238,141,46,137,17,176,169,185,173,95,249,152,148,128,177,184,225,232,112,122,140,66,210,222,21,208,174,101,159,189,195,222,153,205,119,80,87,250,67,181,162,81,253,200,0,17,79,69,227,151,237,190,60,184,161,148,19,94,134,34,32,10,66,242,114,107,125,88,240,224,56,150,217,245,232,204,197,155,25,215,253,52,44,63,212,218,43,13,208,98,24,226,202,4] [])) true
noncomputable def o38 : O:=.cells 2 (cl [(ii 21),(.sl 1593 0 218 1 false)]) true
noncomputable def o39 : O:=.cells 17 (cl [(.p 6 0),.pn,(.p 72 0),(.p 106 0),(.p 143 0),(.p 0 0),(.sl 140 0 4 5 false),(.sl 1598 0 1 2 false),(.sl 2292 0 2 2 false),(ii 0),(ii 0),(ii 0),(ii 0),(.b true),(ii 5),(ii 3),(ii 1)]) true
noncomputable def o40 : O:=.map [((ii 1),(ii 1)),((ii 2),(ii 2))]
noncomputable def o41 : O:=.map [((ii 1),(.p 1576 0)),((ii 2),(.p 2273 0))]
noncomputable def o42 : O:=.cells 2 (cl [(ii 23),(.sl 843 0 119 1 false)]) true
noncomputable def o43 : O:=.cells 72 (cl ((ii 1)::(bs [67,170,72,171,60,230,29,165,115,50,126,76,252,146,222,220,17,19,73,221,76,66,224,210,137,90,205,103,225,230,75,114] ((ii 100001)::((.sl 1967 0 1 2 false)::((.sl 1974 0 1 2 false)::((ii 3)::(bs [178,179,232,21,235,68,48,6,140,10,56,72,208,158,206,230,142,65,3,158,24,237,181,225,254,78,185,62,86,80,88,53] [(ii 100003),(.sl 2015 0 1 2 false),(.sl 2022 0 1 2 false)])))))))) true
noncomputable def o44 : O:=.cells 34 (cl ((.b true)::(bs [14,161,116,195,207,200,17,213,69,93,47,71,251,218,149,78,127,188,242,84,160,21,175,66,95,10,83,14,126,57,135,111] [(ii 0)]))) true
noncomputable def o45 : O:=.cells 34 (cl ((.b true)::(bs [132,134,166,52,13,2,180,91,220,90,89,203,198,33,129,179,43,136,175,25,49,156,17,201,221,241,12,194,6,202,186,99] [(ii 0)]))) true
noncomputable def o46 : O:=.cells 76 (cl ((ii 2)::((ii 1)::((.p 2269 0)::((.p 2271 0)::((.p 2272 0)::((ii 22)::(bs [60,237,156,47,143,81,229,126,62,132,121,172,55,83,150,29,196,219,30,108,22,96,163,102,150,121,121,42,230,39,19,24] ((ii 4)::((ii 0)::((ii 2)::(bs [60,237,156,47,143,81,229,126,62,132,121,172,55,83,150,29,196,219,30,108,22,96,163,102,150,121,121,42,230,39,19,24] [(ii 100002),(.sl 2024 0 2 36 false),.pn])))))))))))) true
noncomputable def o47 : O:=.cells 218 (cl (bs [2,0,0,0,0,0,0,2,0,0,0,0,0,0,1,73,15,187,46,217,156,103,242,248,191,2,142,175,32,118,202,246,100,25,147,50,234,216,225,157,208,182,15,141,202,171,126,110,195,253,72,82,78,154,36,38,186,159,91,83,34,219,69,136,68,56,112,7,149,177,131,107,230,64,161,83,67,183,224,200,114,0,28,234,70,135,202,195,114,45,108,180,99,42,119,123,172,109,237,231,26,45,80,41,225,7,200,104,249,122,176,255,232,204,98,130,236,131,149,69,123,35,67,105,192,209,248,174,135,136,174,39,33,64,56,73,177,145,65,155,102,189,77,6,168,49,69,8,42,123,108,148,129,172,238,241,243,5,90,219,247,170,29,197,195,96,18,151,44,77,28,242,40,35,242,53,114,164,9,57,117,118,32,57,86,103,202,239,3,250,183,134,176,232,53,120,215,117,110,109,3,239,247,220,158,235,115,219,162,181,186,74,207,122,11,124,0,44] [])) true
noncomputable def o48 : O:=.cells 4 (cl [(ii 21),(.sl 1593 0 218 1 false),(ii 22),(.sl 2290 0 218 1 false)]) true
noncomputable def o49 : O:=.cells 17 (cl [(.p 6 0),.pn,(.p 72 0),(.p 106 0),(.p 143 0),(.p 0 0),(.sl 140 0 4 5 false),.sn,(.sl 2989 0 3 2 false),(ii 0),(ii 0),(ii 0),(ii 0),(.b true),(ii 6),(ii 3),(ii 1)]) true
noncomputable def o50 : O:=.map [((ii 1),(ii 1)),((ii 2),(ii 2)),((ii 3),(ii 3))]
noncomputable def o51 : O:=.map [((ii 1),(.p 1576 0)),((ii 2),(.p 2273 0)),((ii 3),(.p 2970 0))]
noncomputable def o52 : O:=.cells 72 (cl ((ii 1)::(bs [67,170,72,171,60,230,29,165,115,50,126,76,252,146,222,220,17,19,73,221,76,66,224,210,137,90,205,103,225,230,75,114] ((ii 100001)::((.sl 2664 0 1 2 false)::((.sl 2671 0 1 2 false)::((ii 2)::(bs [60,237,156,47,143,81,229,126,62,132,121,172,55,83,150,29,196,219,30,108,22,96,163,102,150,121,121,42,230,39,19,24] [(ii 100002),(.sl 2705 0 1 2 false),(.sl 2712 0 1 2 false)])))))))) true
noncomputable def o53 : O:=.cells 34 (cl ((.b true)::(bs [119,34,61,68,86,148,102,166,152,186,153,84,165,167,177,226,24,123,80,15,218,4,189,113,237,20,117,156,197,236,247,106] [(ii 0)]))) true
noncomputable def o54 : O:=.cells 34 (cl ((.b true)::(bs [100,132,124,84,243,225,35,237,119,122,65,247,137,229,233,66,207,34,119,3,109,232,113,1,96,123,217,141,99,77,26,36] [(ii 0)]))) true
noncomputable def o55 : O:=.cells 76 (cl ((ii 3)::((ii 1)::((.p 2966 0)::((.p 2968 0)::((.p 2969 0)::((ii 23)::(bs [178,179,232,21,235,68,48,6,140,10,56,72,208,158,206,230,142,65,3,158,24,237,181,225,254,78,185,62,86,80,88,53] ((ii 4)::((ii 0)::((ii 3)::(bs [178,179,232,21,235,68,48,6,140,10,56,72,208,158,206,230,142,65,3,158,24,237,181,225,254,78,185,62,86,80,88,53] [(ii 100003),(.sl 2714 0 2 36 false),.pn])))))))))))) true
noncomputable def o56 : O:=.cells 218 (cl (bs [2,0,0,0,0,0,0,3,0,0,0,0,0,0,1,34,60,98,104,159,33,99,152,1,105,232,73,226,195,223,17,37,42,4,161,101,204,80,55,171,48,210,110,104,99,225,76,141,159,162,36,155,100,168,6,68,88,179,124,253,124,35,46,169,170,41,41,127,95,187,120,94,3,175,231,127,169,0,178,95,57,116,47,31,190,176,188,114,155,35,92,233,9,35,37,51,94,131,53,197,45,37,184,25,126,111,54,66,221,223,190,112,236,129,53,245,129,57,85,220,144,134,140,242,249,85,75,247,177,245,212,228,123,33,242,96,114,181,239,104,121,18,152,53,130,44,25,115,62,29,188,27,172,30,155,193,69,9,198,42,190,108,14,183,247,89,239,134,75,54,82,233,27,18,211,193,188,136,230,228,163,166,194,36,251,101,146,222,25,244,155,27,109,194,248,111,48,122,176,236,105,87,190,165,171,103,17,77,91,106,188,203,227,100,87,185,122,0] [])) true
noncomputable def o57 : O:=.cells 6 (cl [(ii 21),(.sl 1593 0 218 1 false),(ii 22),(.sl 2290 0 218 1 false),(ii 23),(.sl 2987 0 218 1 false)]) true
noncomputable def o58 : O:=.cells 17 (cl [(.p 6 0),.pn,(.p 72 0),(.p 106 0),(.p 143 0),(.p 0 0),(.sl 140 0 4 5 false),(.sl 3738 0 1 2 false),(.sl 2992 0 2 2 false),(ii 0),(ii 4),(ii 0),(ii 0),(.b true),(ii 6),(ii 3),(ii 1)]) true
noncomputable def o59 : O:=.cells 38 (cl ((ii 1)::(bs [7,1,7,0,0,0,0,0,0,0,0,0,0,0,0,0,0,0,0,0,0,0,0,0,0,0,0,0,0,0,0,0] [(ii 0),(.p 3012 0),.pn,(ii 1),(.p 3293 0)]))) true
noncomputable def o60 : O:=.cells 4 (cl [(ii 22),(.sl 2290 0 218 1 false),(ii 23),(.sl 2987 0 218 1 false)]) true
noncomputable def o61 : O:=.cells 37 (cl ((ii 4)::((ii 0)::((ii 1)::(bs [67,170,72,171,60,230,29,165,115,50,126,76,252,146,222,220,17,19,73,221,76,66,224,210,137,90,205,103,225,230,75,114] [(ii 100001),(.sl 3262 0 2 36 false)]))))) true
noncomputable def o62 : O:=.cells 72 (cl ((ii 2)::(bs [60,237,156,47,143,81,229,126,62,132,121,172,55,83,150,29,196,219,30,108,22,96,163,102,150,121,121,42,230,39,19,24] ((ii 100002)::((.sl 3208 0 1 2 false)::((.sl 3221 0 1 2 false)::((ii 3)::(bs [178,179,232,21,235,68,48,6,140,10,56,72,208,158,206,230,142,65,3,158,24,237,181,225,254,78,185,62,86,80,88,53] [(ii 100003),(.sl 3247 0 1 2 false),(.sl 3260 0 1 2 false)])))))))) true
noncomputable def o63 : O:=.cells 34 (cl ((.b true)::(bs [107,252,229,7,157,139,151,178,250,106,116,26,112,227,156,103,96,115,243,96,217,132,92,119,61,166,112,251,55,161,35,62] [(ii 1)]))) true
noncomputable def o64 : O:=.cells 5 (cl [(ii 1),(ii 1),(.p 3289 0),(.p 3291 0),(.p 3292 0)]) true
noncomputable def o65 : O:=.cells 46 (cl (bs [4,1,0,0,0,0,0,0,1,0,0,0,0,0,0,1,0,0,0,0,0,0,0,55,161,237,182,85,246,14,139,245,130,138,27,160,48,189,188,237,44,209,212,17,249,111] [])) true
noncomputable def o66 : O:=.cells 2 (cl [(ii 21),(.sl 3736 0 46 1 false)]) true
noncomputable def o67 : O:=.cells 17 (cl [(.p 6 0),.pn,(.p 72 0),(.p 106 0),(.p 143 0),(.p 0 0),(.sl 140 0 4 5 false),(.sl 4487 0 2 2 false),(.sl 3741 0 1 2 false),(ii 0),(ii 4),(ii 4),(ii 0),(.b true),(ii 6),(ii 3),(ii 1)]) true
noncomputable def o68 : O:=.cells 38 (cl ((ii 2)::(bs [7,2,7,0,0,0,0,0,0,0,0,0,0,0,0,0,0,0,0,0,0,0,0,0,0,0,0,0,0,0,0,0] [(ii 0),(.p 3761 0),.pn,(ii 2),(.p 4042 0)]))) true
noncomputable def o69 : O:=.cells 2 (cl [(ii 23),(.sl 2987 0 218 1 false)]) true
noncomputable def o70 : O:=.cells 37 (cl ((ii 4)::((ii 0)::((ii 2)::(bs [60,237,156,47,143,81,229,126,62,132,121,172,55,83,150,29,196,219,30,108,22,96,163,102,150,121,121,42,230,39,19,24] [(ii 100002),(.sl 4011 0 2 36 false)]))))) true
noncomputable def o71 : O:=.cells 72 (cl ((ii 1)::(bs [67,170,72,171,60,230,29,165,115,50,126,76,252,146,222,220,17,19,73,221,76,66,224,210,137,90,205,103,225,230,75,114] ((ii 100001)::((.sl 3957 0 1 2 false)::((.sl 3970 0 1 2 false)::((ii 3)::(bs [178,179,232,21,235,68,48,6,140,10,56,72,208,158,206,230,142,65,3,158,24,237,181,225,254,78,185,62,86,80,88,53] [(ii 100003),(.sl 3996 0 1 2 false),(.sl 4009 0 1 2 false)])))))))) true
noncomputable def o72 : O:=.cells 34 (cl ((.b true)::(bs [132,134,166,52,13,2,180,91,220,90,89,203,198,33,129,179,43,136,175,25,49,156,17,201,221,241,12,194,6,202,186,99] [(ii 1)]))) true
noncomputable def o73 : O:=.cells 5 (cl [(ii 2),(ii 1),(.p 4038 0),(.p 4040 0),(.p 4041 0)]) true
noncomputable def o74 : O:=.cells 46 (cl (bs [4,2,0,0,0,0,0,0,2,0,0,0,0,0,0,1,0,0,0,0,0,0,0,11,154,78,202,161,113,243,0,39,112,61,156,25,111,79,77,71,146,34,27,117,194,163] [])) true
noncomputable def o75 : O:=.cells 4 (cl [(ii 21),(.sl 3736 0 46 1 false),(ii 22),(.sl 4485 0 46 1 false)]) true
noncomputable def o76 : O:=.cells 17 (cl [(.p 6 0),.pn,(.p 72 0),(.p 106 0),(.p 143 0),(.p 0 0),(.sl 140 0 4 5 false),(.sl 5235 0 3 2 false),.sn,(ii 0),(ii 4),(ii 4),(ii 4),(.b true),(ii 6),(ii 3),(ii 1)]) true
noncomputable def o77 : O:=.cells 38 (cl ((ii 3)::(bs [7,3,7,0,0,0,0,0,0,0,0,0,0,0,0,0,0,0,0,0,0,0,0,0,0,0,0,0,0,0,0,0] [(ii 0),(.p 4509 0),.pn,(ii 3),(.p 4790 0)]))) true
noncomputable def o78 : O:=.cells 37 (cl ((ii 4)::((ii 0)::((ii 3)::(bs [178,179,232,21,235,68,48,6,140,10,56,72,208,158,206,230,142,65,3,158,24,237,181,225,254,78,185,62,86,80,88,53] [(ii 100003),(.sl 4759 0 2 36 false)]))))) true
noncomputable def o79 : O:=.cells 72 (cl ((ii 1)::(bs [67,170,72,171,60,230,29,165,115,50,126,76,252,146,222,220,17,19,73,221,76,66,224,210,137,90,205,103,225,230,75,114] ((ii 100001)::((.sl 4705 0 1 2 false)::((.sl 4718 0 1 2 false)::((ii 2)::(bs [60,237,156,47,143,81,229,126,62,132,121,172,55,83,150,29,196,219,30,108,22,96,163,102,150,121,121,42,230,39,19,24] [(ii 100002),(.sl 4744 0 1 2 false),(.sl 4757 0 1 2 false)])))))))) true
noncomputable def o80 : O:=.cells 34 (cl ((.b true)::(bs [100,132,124,84,243,225,35,237,119,122,65,247,137,229,233,66,207,34,119,3,109,232,113,1,96,123,217,141,99,77,26,36] [(ii 1)]))) true
noncomputable def o81 : O:=.cells 5 (cl [(ii 3),(ii 1),(.p 4786 0),(.p 4788 0),(.p 4789 0)]) true
noncomputable def o82 : O:=.cells 46 (cl (bs [4,3,0,0,0,0,0,0,3,0,0,0,0,0,0,1,0,0,0,0,0,0,0,194,131,8,243,162,16,231,143,235,189,40,118,188,222,69,230,248,129,147,68,200,133,132] [])) true
noncomputable def o83 : O:=.cells 6 (cl [(ii 21),(.sl 3736 0 46 1 false),(ii 22),(.sl 4485 0 46 1 false),(ii 23),(.sl 5233 0 46 1 false)]) true
noncomputable def o84 : O:=.cells 17 (cl [(.p 6 0),.pn,(.p 72 0),(.p 106 0),(.p 143 0),(.p 0 0),(.sl 140 0 4 5 false),(.sl 5235 0 3 2 false),(.sl 6406 0 3 2 false),(ii 0),(ii 4),(ii 4),(ii 4),(.b true),(ii 6),(ii 3),(ii 1)]) true
noncomputable def o85 : O:=.cells 34 (cl ((.b true)::(bs [20,126,20,211,89,146,57,189,218,82,118,183,57,44,52,145,151,88,169,100,181,217,212,171,5,109,90,204,13,153,41,174] [(ii 1)]))) true
noncomputable def o86 : O:=.cells 76 (cl ((ii 1)::((ii 1)::((.p 1572 0)::((.p 1574 0)::((.p 1575 0)::((ii 21)::(bs [67,170,72,171,60,230,29,165,115,50,126,76,252,146,222,220,17,19,73,221,76,66,224,210,137,90,205,103,225,230,75,114] ((ii 4)::((ii 0)::((ii 1)::(bs [67,170,72,171,60,230,29,165,115,50,126,76,252,146,222,220,17,19,73,221,76,66,224,210,137,90,205,103,225,230,75,114] [(ii 100001),(.sl 5456 0 2 36 false),.pn])))))))))))) true
noncomputable def o87 : O:=.cells 34 (cl ((.b true)::(bs [14,161,116,195,207,200,17,213,69,93,47,71,251,218,149,78,127,188,242,84,160,21,175,66,95,10,83,14,126,57,135,111] [(ii 1)]))) true
noncomputable def o88 : O:=.cells 76 (cl ((ii 2)::((ii 1)::((.p 2269 0)::((.p 2271 0)::((.p 2272 0)::((ii 22)::(bs [60,237,156,47,143,81,229,126,62,132,121,172,55,83,150,29,196,219,30,108,22,96,163,102,150,121,121,42,230,39,19,24] ((ii 4)::((ii 0)::((ii 2)::(bs [60,237,156,47,143,81,229,126,62,132,121,172,55,83,150,29,196,219,30,108,22,96,163,102,150,121,121,42,230,39,19,24] [(ii 100002),(.sl 5828 0 2 36 false),.pn])))))))))))) true
noncomputable def o89 : O:=.cells 34 (cl ((.b true)::(bs [119,34,61,68,86,148,102,166,152,186,153,84,165,167,177,226,24,123,80,15,218,4,189,113,237,20,117,156,197,236,247,106] [(ii 1)]))) true
noncomputable def o90 : O:=.cells 76 (cl ((ii 3)::((ii 1)::((.p 2966 0)::((.p 2968 0)::((.p 2969 0)::((ii 23)::(bs [178,179,232,21,235,68,48,6,140,10,56,72,208,158,206,230,142,65,3,158,24,237,181,225,254,78,185,62,86,80,88,53] ((ii 4)::((ii 0)::((ii 3)::(bs [178,179,232,21,235,68,48,6,140,10,56,72,208,158,206,230,142,65,3,158,24,237,181,225,254,78,185,62,86,80,88,53] [(ii 100003),(.sl 6194 0 2 36 false),.pn])))))))))))) true
noncomputable def o91 : O:=.cells 72 (cl ((ii 2)::(bs [60,237,156,47,143,81,229,126,62,132,121,172,55,83,150,29,196,219,30,108,22,96,163,102,150,121,121,42,230,39,19,24] ((ii 100002)::((.sl 5405 0 1 2 false)::((.sl 5412 0 1 2 false)::((ii 3)::(bs [178,179,232,21,235,68,48,6,140,10,56,72,208,158,206,230,142,65,3,158,24,237,181,225,254,78,185,62,86,80,88,53] [(ii 100003),(.sl 5447 0 1 2 false),(.sl 5454 0 1 2 false)])))))))) true
noncomputable def o92 : O:=.cells 194 (cl (bs [3,0,0,0,0,0,0,1,0,0,0,0,0,0,1,0,0,0,0,0,0,0,249,171,193,36,110,184,157,10,216,200,183,61,222,165,191,58,75,15,57,233,214,223,44,131,192,57,160,134,205,229,0,33,11,143,28,16,209,191,202,58,149,78,154,59,39,221,137,77,61,182,146,164,28,199,189,181,28,36,192,108,223,245,235,127,195,138,137,174,228,137,27,36,244,109,186,67,127,48,215,162,234,72,140,125,106,116,89,185,122,125,223,173,69,203,188,172,239,60,206,59,142,138,212,21,5,180,105,39,50,56,125,121,89,247,33,195,14,119,107,195,146,50,222,196,46,196,73,78,167,73,217,83,27,95,222,108,33,45,119,193,128,35,212,85,65,207,152,129,14,9,1,127,176,180,26,203,160,158,100,144,9,73,109,38,134,145,75,132,87,147,243,60] [])) true
noncomputable def o93 : O:=.cells 72 (cl ((ii 1)::(bs [67,170,72,171,60,230,29,165,115,50,126,76,252,146,222,220,17,19,73,221,76,66,224,210,137,90,205,103,225,230,75,114] ((ii 100001)::((.sl 5771 0 1 2 false)::((.sl 5778 0 1 2 false)::((ii 3)::(bs [178,179,232,21,235,68,48,6,140,10,56,72,208,158,206,230,142,65,3,158,24,237,181,225,254,78,185,62,86,80,88,53] [(ii 100003),(.sl 5819 0 1 2 false),(.sl 5826 0 1 2 false)])))))))) true
noncomputable def o94 : O:=.cells 194 (cl (bs [3,0,0,0,0,0,0,2,0,0,0,0,0,0,1,0,0,0,0,0,0,0,62,203,207,45,95,251,5,164,80,64,227,12,176,184,121,212,53,121,169,173,125,8,115,221,110,247,227,119,125,134,104,200,51,203,234,254,57,149,134,189,184,168,67,37,88,146,9,103,8,74,199,37,228,199,121,43,26,97,179,136,82,104,219,82,169,226,198,49,50,137,67,200,41,233,125,9,67,9,200,215,59,20,132,75,100,19,181,19,132,52,176,194,18,75,227,6,247,160,184,251,83,228,206,251,218,168,48,75,152,58,28,70,171,137,237,169,249,195,17,35,167,65,164,139,136,160,49,83,23,186,108,128,222,111,126,200,1,100,219,225,154,134,4,189,135,188,34,159,238,19,24,156,14,3,24,101,186,126,48,220,65,188,231,222,225,86,143,21,130,250,90,110] [])) true
noncomputable def o95 : O:=.cells 72 (cl ((ii 1)::(bs [67,170,72,171,60,230,29,165,115,50,126,76,252,146,222,220,17,19,73,221,76,66,224,210,137,90,205,103,225,230,75,114] ((ii 100001)::((.sl 6144 0 1 2 false)::((.sl 6151 0 1 2 false)::((ii 2)::(bs [60,237,156,47,143,81,229,126,62,132,121,172,55,83,150,29,196,219,30,108,22,96,163,102,150,121,121,42,230,39,19,24] [(ii 100002),(.sl 6185 0 1 2 false),(.sl 6192 0 1 2 false)])))))))) true
noncomputable def o96 : O:=.cells 194 (cl (bs [3,0,0,0,0,0,0,3,0,0,0,0,0,0,1,0,0,0,0,0,0,0,209,219,29,79,142,111,158,151,108,44,227,20,157,105,149,161,252,152,86,61,96,255,81,34,22,181,232,173,53,175,103,251,117,234,204,237,107,226,66,100,27,53,61,189,31,241,93,244,225,254,148,159,81,5,105,232,97,29,43,255,12,68,201,96,55,53,111,72,81,64,94,152,82,240,222,65,9,111,119,14,41,152,118,9,101,58,86,95,18,136,130,161,253,57,187,103,71,7,109,69,204,156,9,178,144,219,137,153,150,254,101,158,65,79,224,242,251,86,236,226,63,110,26,127,69,230,155,254,94,249,20,131,161,15,147,120,237,229,8,181,136,109,149,51,231,2,221,61,223,58,180,93,164,216,181,144,76,13,59,30,132,224,88,177,5,110,200,207,19,75,166,79] [])) true
noncomputable def o97 : O:=.cells 6 (cl [(ii 21),(.sl 5658 0 194 1 false),(ii 22),(.sl 6030 0 194 1 false),(ii 23),(.sl 6403 0 194 1 false)]) true
noncomputable def o98 : O:=.cells 17 (cl [(.p 6 0),.pn,(.p 72 0),(.p 106 0),(.p 143 0),(.p 0 0),(.sl 140 0 4 5 false),(.sl 6409 0 2 2 false),(.sl 6406 0 3 2 false),(ii 0),(ii 4),(ii 4),(ii 4),(.b true),(ii 7),(ii 3),(ii 1)]) true
noncomputable def o99 : O:=.cells 3 (cl [(.b true),(ii 1),(iu 1)]) true
noncomputable def o100 : O:=.cells 76 (cl ((ii 1)::((ii 1)::((.p 1572 0)::((.p 1574 0)::((.p 1575 0)::((ii 21)::(bs [67,170,72,171,60,230,29,165,115,50,126,76,252,146,222,220,17,19,73,221,76,66,224,210,137,90,205,103,225,230,75,114] ((ii 4)::((ii 0)::((ii 1)::(bs [67,170,72,171,60,230,29,165,115,50,126,76,252,146,222,220,17,19,73,221,76,66,224,210,137,90,205,103,225,230,75,114] [(ii 100001),(.sl 5456 0 2 36 false),(.p 6527 0)])))))))))))) true
noncomputable def o101 : O:=.cells 4 (cl [(ii 22),(.sl 4485 0 46 1 false),(ii 23),(.sl 5233 0 46 1 false)]) true
noncomputable def o102 : O:=.cells 37 (cl ((ii 4)::((ii 0)::((ii 1)::(bs [67,170,72,171,60,230,29,165,115,50,126,76,252,146,222,220,17,19,73,221,76,66,224,210,137,90,205,103,225,230,75,114] [(ii 100001),(.sl 5456 0 2 36 false)]))))) true
noncomputable def o103 : O:=.cells 17 (cl [(.p 6 0),.pn,(.p 72 0),(.p 106 0),(.p 143 0),(.p 0 0),(.sl 140 0 4 5 false),(.sl 6530 0 1 2 false),(.sl 6406 0 3 2 false),(ii 0),(ii 4),(ii 4),(ii 4),(.b true),(ii 8),(ii 3),(ii 1)]) true
noncomputable def o104 : O:=.cells 76 (cl ((ii 2)::((ii 1)::((.p 2269 0)::((.p 2271 0)::((.p 2272 0)::((ii 22)::(bs [60,237,156,47,143,81,229,126,62,132,121,172,55,83,150,29,196,219,30,108,22,96,163,102,150,121,121,42,230,39,19,24] ((ii 4)::((ii 0)::((ii 2)::(bs [60,237,156,47,143,81,229,126,62,132,121,172,55,83,150,29,196,219,30,108,22,96,163,102,150,121,121,42,230,39,19,24] [(ii 100002),(.sl 5828 0 2 36 false),(.p 6648 0)])))))))))))) true
noncomputable def o105 : O:=.cells 2 (cl [(ii 23),(.sl 5233 0 46 1 false)]) true
noncomputable def o106 : O:=.cells 37 (cl ((ii 4)::((ii 0)::((ii 2)::(bs [60,237,156,47,143,81,229,126,62,132,121,172,55,83,150,29,196,219,30,108,22,96,163,102,150,121,121,42,230,39,19,24] [(ii 100002),(.sl 5828 0 2 36 false)]))))) true
noncomputable def o107 : O:=.cells 17 (cl [(.p 6 0),.pn,(.p 72 0),(.p 106 0),(.p 143 0),(.p 0 0),(.sl 140 0 4 5 false),.sn,(.sl 6406 0 3 2 false),(ii 0),(ii 4),(ii 4),(ii 4),(.b true),(ii 9),(ii 3),(ii 1)]) true
noncomputable def o108 : O:=.cells 76 (cl ((ii 3)::((ii 1)::((.p 2966 0)::((.p 2968 0)::((.p 2969 0)::((ii 23)::(bs [178,179,232,21,235,68,48,6,140,10,56,72,208,158,206,230,142,65,3,158,24,237,181,225,254,78,185,62,86,80,88,53] ((ii 4)::((ii 0)::((ii 3)::(bs [178,179,232,21,235,68,48,6,140,10,56,72,208,158,206,230,142,65,3,158,24,237,181,225,254,78,185,62,86,80,88,53] [(ii 100003),(.sl 6194 0 2 36 false),(.p 6768 0)])))))))))))) true
noncomputable def o109 : O:=.cells 37 (cl ((ii 4)::((ii 0)::((ii 3)::(bs [178,179,232,21,235,68,48,6,140,10,56,72,208,158,206,230,142,65,3,158,24,237,181,225,254,78,185,62,86,80,88,53] [(ii 100003),(.sl 6194 0 2 36 false)]))))) true
noncomputable def o110 : O:=.cells 17 (cl [(.p 6 0),.pn,(.p 72 0),(.p 106 0),(.p 143 0),(.p 0 0),(.sl 140 0 4 5 false),(.sl 7094 0 1 2 false),(.sl 6771 0 2 2 false),(ii 0),(ii 4),(ii 4),(ii 4),(.b true),(ii 9),(ii 3),(ii 1)]) true
noncomputable def o111 : O:=.cells 34 (cl ((.b true)::(bs [107,252,229,7,157,139,151,178,250,106,116,26,112,227,156,103,96,115,243,96,217,132,92,119,61,166,112,251,55,161,35,62] [(ii 2)]))) true
noncomputable def o112 : O:=.cells 4 (cl [(ii 22),(.sl 6030 0 194 1 false),(ii 23),(.sl 6403 0 194 1 false)]) true
noncomputable def o113 : O:=.cells 46 (cl (bs [4,1,0,0,0,0,0,0,1,0,0,0,0,0,0,1,0,0,0,0,0,0,1,111,23,94,148,59,135,81,34,217,255,161,43,43,236,49,90,248,72,33,200,231,94,239] [])) true
noncomputable def o114 : O:=.cells 2 (cl [(ii 21),(.sl 7092 0 46 1 false)]) true
noncomputable def o115 : O:=.cells 17 (cl [(.p 6 0),.pn,(.p 72 0),(.p 106 0),(.p 143 0),(.p 0 0),(.sl 140 0 4 5 false),(.sl 7420 0 2 2 false),(.sl 7097 0 1 2 false),(ii 0),(ii 4),(ii 4),(ii 4),(.b true),(ii 9),(ii 3),(ii 1)]) true
noncomputable def o116 : O:=.cells 34 (cl ((.b true)::(bs [132,134,166,52,13,2,180,91,220,90,89,203,198,33,129,179,43,136,175,25,49,156,17,201,221,241,12,194,6,202,186,99] [(ii 2)]))) true
noncomputable def o117 : O:=.cells 2 (cl [(ii 23),(.sl 6403 0 194 1 false)]) true
noncomputable def o118 : O:=.cells 46 (cl (bs [4,2,0,0,0,0,0,0,2,0,0,0,0,0,0,1,0,0,0,0,0,0,1,229,154,239,17,215,145,105,154,215,223,3,227,36,114,140,34,162,231,114,65,173,83,92] [])) true
noncomputable def o119 : O:=.cells 4 (cl [(ii 21),(.sl 7092 0 46 1 false),(ii 22),(.sl 7418 0 46 1 false)]) true
noncomputable def o120 : O:=.cells 17 (cl [(.p 6 0),.pn,(.p 72 0),(.p 106 0),(.p 143 0),(.p 0 0),(.sl 140 0 4 5 false),(.sl 7745 0 3 2 false),.sn,(ii 0),(ii 4),(ii 4),(ii 4),(.b true),(ii 9),(ii 3),(ii 1)]) true
noncomputable def o121 : O:=.cells 34 (cl ((.b true)::(bs [100,132,124,84,243,225,35,237,119,122,65,247,137,229,233,66,207,34,119,3,109,232,113,1,96,123,217,141,99,77,26,36] [(ii 2)]))) true
noncomputable def o122 : O:=.cells 46 (cl (bs [4,3,0,0,0,0,0,0,3,0,0,0,0,0,0,1,0,0,0,0,0,0,1,22,28,14,207,90,195,230,66,18,87,160,244,90,166,122,212,161,182,189,180,80,26,210] [])) true
noncomputable def o123 : O:=.cells 6 (cl [(ii 21),(.sl 7092 0 46 1 false),(ii 22),(.sl 7418 0 46 1 false),(ii 23),(.sl 7743 0 46 1 false)]) true
noncomputable def o124 : O:=.cells 17 (cl [(.p 6 0),.pn,(.p 72 0),(.p 106 0),(.p 143 0),(.p 0 0),(.sl 140 0 4 5 false),(.sl 7823 0 2 2 false),.sn,(ii 0),(ii 4),(ii 4),(ii 4),(.b true),(ii 10),(ii 3),(ii 1)]) true
noncomputable def o125 : O:=.cells 3 (cl [(.b true),(ii 2),(iu 3)]) true
noncomputable def o126 : O:=.cells 76 (cl ((ii 1)::((ii 1)::((.p 1572 0)::((.p 1574 0)::((.p 1575 0)::((ii 21)::(bs [67,170,72,171,60,230,29,165,115,50,126,76,252,146,222,220,17,19,73,221,76,66,224,210,137,90,205,103,225,230,75,114] ((ii 4)::((ii 0)::((ii 1)::(bs [67,170,72,171,60,230,29,165,115,50,126,76,252,146,222,220,17,19,73,221,76,66,224,210,137,90,205,103,225,230,75,114] [(ii 100001),(.sl 5456 0 2 36 false),(.p 7941 0)])))))))))))) true
noncomputable def o127 : O:=.cells 4 (cl [(ii 22),(.sl 7418 0 46 1 false),(ii 23),(.sl 7743 0 46 1 false)]) true
noncomputable def o128 : O:=.cells 17 (cl [(.p 6 0),.pn,(.p 72 0),(.p 106 0),(.p 143 0),(.p 0 0),(.sl 140 0 4 5 false),(.sl 7944 0 1 2 false),.sn,(ii 0),(ii 4),(ii 4),(ii 4),(.b true),(ii 11),(ii 3),(ii 1)]) true
noncomputable def o129 : O:=.cells 76 (cl ((ii 2)::((ii 1)::((.p 2269 0)::((.p 2271 0)::((.p 2272 0)::((ii 22)::(bs [60,237,156,47,143,81,229,126,62,132,121,172,55,83,150,29,196,219,30,108,22,96,163,102,150,121,121,42,230,39,19,24] ((ii 4)::((ii 0)::((ii 2)::(bs [60,237,156,47,143,81,229,126,62,132,121,172,55,83,150,29,196,219,30,108,22,96,163,102,150,121,121,42,230,39,19,24] [(ii 100002),(.sl 5828 0 2 36 false),(.p 8062 0)])))))))))))) true
noncomputable def o130 : O:=.cells 2 (cl [(ii 23),(.sl 7743 0 46 1 false)]) true
noncomputable def o131 : O:=.cells 17 (cl [(.p 6 0),.pn,(.p 72 0),(.p 106 0),(.p 143 0),(.p 0 0),(.sl 140 0 4 5 false),.sn,.sn,(ii 0),(ii 4),(ii 4),(ii 4),(.b true),(ii 12),(ii 3),(ii 1)]) true
noncomputable def o132 : O:=.cells 76 (cl ((ii 3)::((ii 1)::((.p 2966 0)::((.p 2968 0)::((.p 2969 0)::((ii 23)::(bs [178,179,232,21,235,68,48,6,140,10,56,72,208,158,206,230,142,65,3,158,24,237,181,225,254,78,185,62,86,80,88,53] ((ii 4)::((ii 0)::((ii 3)::(bs [178,179,232,21,235,68,48,6,140,10,56,72,208,158,206,230,142,65,3,158,24,237,181,225,254,78,185,62,86,80,88,53] [(ii 100003),(.sl 6194 0 2 36 false),(.p 8182 0)])))))))))))) true
noncomputable def o133 : O:=.cells 6 (cl [(.b true),(ii 5),(ii 0),(.sl 8339 0 3 35 false),.sn,(.s [97,108,108,111,119,32,49,32,62,32,50,32,56,48])]) true
noncomputable def o134 : O:=.cells 17 (cl [(.p 6 0),.pn,(.p 72 0),(.p 106 0),(.p 143 0),(.p 0 0),(.sl 8385 0 5 5 false),.sn,.sn,(ii 0),(ii 4),(ii 4),(ii 4),(.b true),(ii 12),(ii 3),(ii 1)]) true
noncomputable def o135 : O:=.cells 25 (cl [(ii 1),(ii 0),.sn,.sn,(.s [97,108,108,111,119,32,42,32,62,32,42,32,42]),(ii 2),(ii 0),(.sl 67 0 1 35 false),.sn,(.s [97,108,108,111,119,32,42,32,62,32,42,32,42]),(ii 3),(ii 0),(.sl 101 0 2 35 false),.sn,(.s [97,108,108,111,119,32,42,32,62,32,42,32,42]),(ii 4),(ii 0),(.sl 138 0 3 35 false),.sn,(.s [97,108,108,111,119,32,42,32,62,32,42,32,42]),(ii 5),(ii 0),(.sl 8383 0 3 35 false),.sn,(.s [97,108,108,111,119,32,49,32,62,32,50,32,56,48])]) true
noncomputable def o136 : O:=.cells 17 (cl [(.p 6 0),.pn,(.p 72 0),(.p 106 0),(.p 143 0),(.p 0 0),(.sl 8385 0 5 5 false),.sn,(.sl 9678 0 3 2 false),(ii 0),(ii 4),(ii 4),(ii 4),(.b true),(ii 12),(ii 3),(ii 1)]) true
noncomputable def o137 : O:=.cells 34 (cl ((.b true)::(bs [20,126,20,211,89,146,57,189,218,82,118,183,57,44,52,145,151,88,169,100,181,217,212,171,5,109,90,204,13,153,41,174] [(ii 2)]))) true
noncomputable def o138 : O:=.cells 76 (cl ((ii 1)::((ii 1)::((.p 1572 0)::((.p 1574 0)::((.p 1575 0)::((ii 21)::(bs [67,170,72,171,60,230,29,165,115,50,126,76,252,146,222,220,17,19,73,221,76,66,224,210,137,90,205,103,225,230,75,114] ((ii 5)::((ii 0)::((ii 1)::(bs [67,170,72,171,60,230,29,165,115,50,126,76,252,146,222,220,17,19,73,221,76,66,224,210,137,90,205,103,225,230,75,114] [(ii 100001),(.sl 8607 0 1 36 false),(.p 7941 0)])))))))))))) true
noncomputable def o139 : O:=.cells 34 (cl ((.b true)::(bs [14,161,116,195,207,200,17,213,69,93,47,71,251,218,149,78,127,188,242,84,160,21,175,66,95,10,83,14,126,57,135,111] [(ii 2)]))) true
noncomputable def o140 : O:=.cells 76 (cl ((ii 2)::((ii 1)::((.p 2269 0)::((.p 2271 0)::((.p 2272 0)::((ii 22)::(bs [60,237,156,47,143,81,229,126,62,132,121,172,55,83,150,29,196,219,30,108,22,96,163,102,150,121,121,42,230,39,19,24] ((ii 5)::((ii 0)::((ii 2)::(bs [60,237,156,47,143,81,229,126,62,132,121,172,55,83,150,29,196,219,30,108,22,96,163,102,150,121,121,42,230,39,19,24] [(ii 100002),(.sl 9025 0 1 36 false),(.p 8062 0)])))))))))))) true
noncomputable def o141 : O:=.cells 34 (cl ((.b true)::(bs [119,34,61,68,86,148,102,166,152,186,153,84,165,167,177,226,24,123,80,15,218,4,189,113,237,20,117,156,197,236,247,106] [(ii 2)]))) true
noncomputable def o142 : O:=.cells 76 (cl ((ii 3)::((ii 1)::((.p 2966 0)::((.p 2968 0)::((.p 2969 0)::((ii 23)::(bs [178,179,232,21,235,68,48,6,140,10,56,72,208,158,206,230,142,65,3,158,24,237,181,225,254,78,185,62,86,80,88,53] ((ii 5)::((ii 0)::((ii 3)::(bs [178,179,232,21,235,68,48,6,140,10,56,72,208,158,206,230,142,65,3,158,24,237,181,225,254,78,185,62,86,80,88,53] [(ii 100003),.sn,(.p 8182 0)])))))))))))) true
noncomputable def o143 : O:=.cells 2 (cl [(ii 80),(ii 80)]) true
noncomputable def o144 : O:=.cells 36 (cl ((ii 2)::(bs [60,237,156,47,143,81,229,126,62,132,121,172,55,83,150,29,196,219,30,108,22,96,163,102,150,121,121,42,230,39,19,24] [(ii 100002),.sn,(.sl 8604 0 1 2 false)]))) true
noncomputable def o145 : O:=.cells 149 (cl (bs [3,0,0,0,0,0,0,1,0,0,0,0,0,0,1,0,0,0,0,0,0,1,238,145,79,151,11,227,218,66,239,68,216,35,134,242,109,70,229,255,230,14,181,204,179,54,88,23,20,158,80,85,27,254,157,120,174,207,88,132,128,199,81,169,158,33,141,190,83,94,22,119,228,213,56,10,231,139,81,140,17,63,203,121,69,194,36,159,254,99,167,230,22,158,7,81,28,38,202,237,188,0,85,203,76,159,174,236,102,131,44,98,25,210,77,248,112,170,105,35,255,142,184,63,84,249,156,23,65,173,25,117,213,205,222,95,142,79,180,85,151,220,185,33,64,17,49,57,198] [])) true
noncomputable def o146 : O:=.cells 36 (cl ((ii 1)::(bs [67,170,72,171,60,230,29,165,115,50,126,76,252,146,222,220,17,19,73,221,76,66,224,210,137,90,205,103,225,230,75,114] [(ii 100001),(.sl 9011 0 1 2 false),.sn]))) true
noncomputable def o147 : O:=.cells 149 (cl (bs [3,0,0,0,0,0,0,2,0,0,0,0,0,0,1,0,0,0,0,0,0,1,52,48,3,48,148,62,8,33,88,93,98,45,75,188,101,203,145,189,30,8,246,136,0,89,31,210,49,133,28,154,177,9,240,102,107,81,207,165,115,224,68,61,7,202,111,13,13,71,184,16,14,190,20,149,136,196,174,205,179,180,190,46,93,248,208,163,73,97,128,215,174,164,129,7,187,38,49,9,25,94,64,99,101,17,209,110,167,57,70,49,114,106,232,169,242,210,92,40,175,236,127,94,91,103,12,20,7,58,142,157,110,70,130,194,217,173,169,58,136,240,128,241,1,1,107,45,217] [])) true
noncomputable def o148 : O:=.cells 104 (cl (bs [3,0,0,0,0,0,0,3,0,0,0,0,0,0,1,0,0,0,0,0,0,1,91,9,31,213,30,170,223,178,21,210,13,124,210,234,119,56,120,204,34,65,231,217,243,128,128,86,90,245,105,35,215,83,43,225,159,144,10,211,216,167,104,143,4,86,60,94,244,103,178,218,93,30,64,201,74,154,236,67,203,41,116,108,192,249,59,201,171,38,144,239,29,171,120,167,223,14,46,2,221,5,44,63] [])) true
noncomputable def o149 : O:=.cells 6 (cl [(ii 21),(.sl 8871 0 149 1 false),(ii 22),(.sl 9299 0 149 1 false),(ii 23),(.sl 9675 0 104 1 false)]) true
noncomputable def o150 : O:=.cells 17 (cl [(.p 6 0),.pn,(.p 72 0),(.p 106 0),(.p 143 0),(.p 0 0),(.sl 8385 0 5 5 false),(.sl 10328 0 1 2 false),(.sl 9681 0 2 2 false),(ii 0),(ii 5),(ii 4),(ii 4),(.b true),(ii 12),(ii 3),(ii 1)]) true
noncomputable def o151 : O:=.cells 38 (cl ((ii 1)::(bs [7,1,7,0,0,0,0,0,0,0,0,0,0,0,0,0,0,0,0,0,0,0,0,0,0,0,0,0,0,0,0,0] [(ii 0),(.p 9701 0),.pn,(ii 1),(.p 3293 0)]))) true
noncomputable def o152 : O:=.cells 34 (cl ((.b true)::(bs [107,252,229,7,157,139,151,178,250,106,116,26,112,227,156,103,96,115,243,96,217,132,92,119,61,166,112,251,55,161,35,62] [(ii 3)]))) true
noncomputable def o153 : O:=.cells 4 (cl [(ii 22),(.sl 9299 0 149 1 false),(ii 23),(.sl 9675 0 104 1 false)]) true
noncomputable def o154 : O:=.cells 37 (cl ((ii 5)::((ii 0)::((ii 1)::(bs [67,170,72,171,60,230,29,165,115,50,126,76,252,146,222,220,17,19,73,221,76,66,224,210,137,90,205,103,225,230,75,114] [(ii 100001),(.sl 9921 0 1 36 false)]))))) true
noncomputable def o155 : O:=.cells 36 (cl ((ii 2)::(bs [60,237,156,47,143,81,229,126,62,132,121,172,55,83,150,29,196,219,30,108,22,96,163,102,150,121,121,42,230,39,19,24] [(ii 100002),.sn,(.sl 9919 0 1 2 false)]))) true
noncomputable def o156 : O:=.cells 46 (cl (bs [4,1,0,0,0,0,0,0,1,0,0,0,0,0,0,1,0,0,0,0,0,0,2,148,34,24,158,89,242,179,136,29,6,56,151,103,238,6,53,10,8,187,5,4,170,87] [])) true
noncomputable def o157 : O:=.cells 2 (cl [(ii 21),(.sl 10326 0 46 1 false)]) true
noncomputable def o158 : O:=.cells 17 (cl [(.p 6 0),.pn,(.p 72 0),(.p 106 0),(.p 143 0),(.p 0 0),(.sl 8385 0 5 5 false),(.sl 10978 0 2 2 false),(.sl 10331 0 1 2 false),(ii 0),(ii 5),(ii 5),(ii 4),(.b true),(ii 12),(ii 3),(ii 1)]) true
noncomputable def o159 : O:=.cells 38 (cl ((ii 2)::(bs [7,2,7,0,0,0,0,0,0,0,0,0,0,0,0,0,0,0,0,0,0,0,0,0,0,0,0,0,0,0,0,0] [(ii 0),(.p 10351 0),.pn,(ii 2),(.p 4042 0)]))) true
noncomputable def o160 : O:=.cells 34 (cl ((.b true)::(bs [132,134,166,52,13,2,180,91,220,90,89,203,198,33,129,179,43,136,175,25,49,156,17,201,221,241,12,194,6,202,186,99] [(ii 3)]))) true
noncomputable def o161 : O:=.cells 2 (cl [(ii 23),(.sl 9675 0 104 1 false)]) true
noncomputable def o162 : O:=.cells 37 (cl ((ii 5)::((ii 0)::((ii 2)::(bs [60,237,156,47,143,81,229,126,62,132,121,172,55,83,150,29,196,219,30,108,22,96,163,102,150,121,121,42,230,39,19,24] [(ii 100002),(.sl 10570 0 1 36 false)]))))) true
noncomputable def o163 : O:=.cells 36 (cl ((ii 1)::(bs [67,170,72,171,60,230,29,165,115,50,126,76,252,146,222,220,17,19,73,221,76,66,224,210,137,90,205,103,225,230,75,114] [(ii 100001),(.sl 10568 0 1 2 false),.sn]))) true
noncomputable def o164 : O:=.cells 46 (cl (bs [4,2,0,0,0,0,0,0,2,0,0,0,0,0,0,1,0,0,0,0,0,0,2,227,153,6,165,121,29,35,143,182,128,27,184,60,241,6,163,194,37,83,43,112,51,105] [])) true
noncomputable def o165 : O:=.cells 4 (cl [(ii 21),(.sl 10326 0 46 1 false),(ii 22),(.sl 10976 0 46 1 false)]) true
noncomputable def o166 : O:=.cells 17 (cl [(.p 6 0),.pn,(.p 72 0),(.p 106 0),(.p 143 0),(.p 0 0),(.sl 8385 0 5 5 false),(.sl 11507 0 3 2 false),.sn,(ii 0),(ii 5),(ii 5),(ii 5),(.b true),(ii 12),(ii 3),(ii 1)]) true
noncomputable def o167 : O:=.cells 38 (cl ((ii 3)::(bs [7,3,7,0,0,0,0,0,0,0,0,0,0,0,0,0,0,0,0,0,0,0,0,0,0,0,0,0,0,0,0,0] [(ii 0),(.p 11000 0),.pn,(ii 3),(.p 4790 0)]))) true
noncomputable def o168 : O:=.cells 34 (cl ((.b true)::(bs [100,132,124,84,243,225,35,237,119,122,65,247,137,229,233,66,207,34,119,3,109,232,113,1,96,123,217,141,99,77,26,36] [(ii 3)]))) true
noncomputable def o169 : O:=.cells 37 (cl ((ii 5)::((ii 0)::((ii 3)::(bs [178,179,232,21,235,68,48,6,140,10,56,72,208,158,206,230,142,65,3,158,24,237,181,225,254,78,185,62,86,80,88,53] [(ii 100003),.sn]))))) true
noncomputable def o170 : O:=.cells 46 (cl (bs [4,3,0,0,0,0,0,0,3,0,0,0,0,0,0,1,0,0,0,0,0,0,2,171,133,18,190,89,24,206,120,37,83,213,206,97,35,120,90,204,8,199,87,193,81,100] [])) true
noncomputable def o171 : O:=.cells 6 (cl [(ii 21),(.sl 10326 0 46 1 false),(ii 22),(.sl 10976 0 46 1 false),(ii 23),(.sl 11505 0 46 1 false)]) true
noncomputable def o172 : O:=.cells 17 (cl [(.p 6 0),.pn,(.p 72 0),(.p 106 0),(.p 143 0),(.p 0 0),(.sl 8385 0 5 5 false),(.sl 11507 0 3 2 false),(.sl 12800 0 3 2 false),(ii 0),(ii 5),(ii 5),(ii 5),(.b true),(ii 12),(ii 3),(ii 1)]) true
noncomputable def o173 : O:=.cells 34 (cl ((.b true)::(bs [20,126,20,211,89,146,57,189,218,82,118,183,57,44,52,145,151,88,169,100,181,217,212,171,5,109,90,204,13,153,41,174] [(ii 3)]))) true
noncomputable def o174 : O:=.cells 76 (cl ((ii 1)::((ii 1)::((.p 1572 0)::((.p 1574 0)::((.p 1575 0)::((ii 21)::(bs [67,170,72,171,60,230,29,165,115,50,126,76,252,146,222,220,17,19,73,221,76,66,224,210,137,90,205,103,225,230,75,114] ((ii 5)::((ii 0)::((ii 1)::(bs [67,170,72,171,60,230,29,165,115,50,126,76,252,146,222,220,17,19,73,221,76,66,224,210,137,90,205,103,225,230,75,114] [(ii 100001),(.sl 11729 0 1 36 false),(.p 7941 0)])))))))))))) true
noncomputable def o175 : O:=.cells 34 (cl ((.b true)::(bs [14,161,116,195,207,200,17,213,69,93,47,71,251,218,149,78,127,188,242,84,160,21,175,66,95,10,83,14,126,57,135,111] [(ii 3)]))) true
noncomputable def o176 : O:=.cells 76 (cl ((ii 2)::((ii 1)::((.p 2269 0)::((.p 2271 0)::((.p 2272 0)::((ii 22)::(bs [60,237,156,47,143,81,229,126,62,132,121,172,55,83,150,29,196,219,30,108,22,96,163,102,150,121,121,42,230,39,19,24] ((ii 5)::((ii 0)::((ii 2)::(bs [60,237,156,47,143,81,229,126,62,132,121,172,55,83,150,29,196,219,30,108,22,96,163,102,150,121,121,42,230,39,19,24] [(ii 100002),(.sl 12147 0 1 36 false),(.p 8062 0)])))))))))))) true
noncomputable def o177 : O:=.cells 34 (cl ((.b true)::(bs [119,34,61,68,86,148,102,166,152,186,153,84,165,167,177,226,24,123,80,15,218,4,189,113,237,20,117,156,197,236,247,106] [(ii 3)]))) true
noncomputable def o178 : O:=.cells 36 (cl ((ii 2)::(bs [60,237,156,47,143,81,229,126,62,132,121,172,55,83,150,29,196,219,30,108,22,96,163,102,150,121,121,42,230,39,19,24] [(ii 100002),.sn,(.sl 11726 0 1 2 false)]))) true
noncomputable def o179 : O:=.cells 149 (cl (bs [3,0,0,0,0,0,0,1,0,0,0,0,0,0,1,0,0,0,0,0,0,2,103,172,26,98,179,78,149,100,146,204,75,187,45,199,181,79,86,222,204,255,8,207,222,160,92,187,205,122,197,53,70,32,121,92,0,211,180,185,45,68,85,109,223,94,14,203,16,218,168,10,19,32,224,123,14,51,169,12,134,41,247,13,45,4,189,154,212,227,244,252,225,180,153,81,137,248,187,182,0,9,16,187,105,84,236,144,72,156,105,50,105,156,159,219,223,196,186,216,162,121,185,129,89,115,207,230,103,38,45,199,98,196,177,133,79,221,31,63,136,3,22,126,60,53,87,236,182] [])) true
noncomputable def o180 : O:=.cells 36 (cl ((ii 1)::(bs [67,170,72,171,60,230,29,165,115,50,126,76,252,146,222,220,17,19,73,221,76,66,224,210,137,90,205,103,225,230,75,114] [(ii 100001),(.sl 12133 0 1 2 false),.sn]))) true
noncomputable def o181 : O:=.cells 149 (cl (bs [3,0,0,0,0,0,0,2,0,0,0,0,0,0,1,0,0,0,0,0,0,2,141,44,191,21,121,135,51,37,137,146,89,113,53,191,159,136,235,26,82,0,95,117,44,24,132,12,67,246,23,55,26,152,125,236,30,45,68,99,39,82,36,38,89,100,99,68,168,16,201,138,35,98,130,126,238,87,34,67,253,22,155,240,223,157,172,164,23,40,0,181,19,57,136,88,112,90,85,62,176,144,107,222,129,131,79,26,189,41,9,226,227,223,71,26,233,215,13,138,85,198,230,5,101,195,6,157,112,119,120,38,100,69,148,212,95,175,248,28,22,233,5,19,52,166,252,53,119] [])) true
noncomputable def o182 : O:=.cells 104 (cl (bs [3,0,0,0,0,0,0,3,0,0,0,0,0,0,1,0,0,0,0,0,0,2,28,197,42,1,143,10,74,213,216,114,1,51,55,251,38,75,101,89,228,243,13,27,74,10,186,216,252,142,6,9,126,110,17,232,117,21,64,105,126,153,199,203,21,59,242,64,205,47,166,162,150,144,231,157,218,246,3,189,192,186,172,193,239,60,245,59,115,252,128,41,177,159,207,15,162,221,172,246,63,120,77,140] [])) true
noncomputable def o183 : O:=.cells 6 (cl [(ii 21),(.sl 11993 0 149 1 false),(ii 22),(.sl 12421 0 149 1 false),(ii 23),(.sl 12797 0 104 1 false)]) true
end Go.X
