/- (*control.Door).Inside as a built-in function; the table of the built-ins. -/
import Derived.Test.YtdehdggbpmdeeaaGreatDoorLa
import Derived.Test.YtdehdggbpmdeeaaGreatDoorSR
import Derived.Lib.Hide
set_option linter.all false
set_option maxRecDepth 100000
namespace Go.X
open Go Go.RowKit Go.Proofs Go.Maps
theorem keyN_spec {v : V} {n : Nat} (h : keyN v = some n) : v = .i .i64 (.ofNat n) ∧ n ≤ 9223372036854775807:=by
 unfold keyN at h
 split at h
 ·rename_i m
  cases hb : Nat.ble m 9223372036854775807 <;> rw [hb] at h
  ·cases h
  cases h
  exact ⟨rfl,Nat.le_of_ble_eq_true hb⟩
 ·cases h
theorem insO_spec (n : Nat) : ∀ (l t : List Nat),insO n l = some t → l.Pairwise (· < ·) → t.Perm (n::l) ∧ t.Pairwise (· < ·)
 | [],t,h,_=>by cases h; exact ⟨.refl _,by simp⟩
 | x::l,t,h,hp=>by
  have h2 : (Bool.rec (Bool.rec (Option.map (x::·) (insO n l)) none (Nat.beq n x)) (some (n::x::l)) (Nat.ble (Nat.succ n) x) : Option (List Nat)) = some t:=h
  have hp2:=List.pairwise_cons.1 hp
  cases hb : Nat.ble (Nat.succ n) x <;> rw [hb] at h2
  ·cases he : Nat.beq n x <;> rw [he] at h2
   ·have h3 : Option.map (x::·) (insO n l) = some t:=h2
    cases hi : insO n l with
    | none=>rw [hi] at h3; cases h3
    | some t' =>
     rw [hi] at h3
     cases h3
     obtain ⟨k1,k2⟩:=insO_spec n l t' hi hp2.2
     have hne : n ≠ x:=fun e=>by rw [e,Nat.beq_refl] at he; cases he
     have hlt : ¬ n < x:=fun e=>by rw [Nat.ble_eq_true_of_le (show Nat.succ n ≤ x from e)] at hb; cases hb
     refine ⟨(List.Perm.cons x k1).trans (List.Perm.swap n x l),List.pairwise_cons.2 ⟨fun y hy=>?_,k2⟩⟩
     rcases List.mem_cons.1 (k1.mem_iff.1 hy) with rfl | hy
     ·omega
     ·exact hp2.1 y hy
   ·cases h2
  ·cases h2
   have hlt : n < x:=Nat.le_of_ble_eq_true hb
   refine ⟨.refl _,List.pairwise_cons.2 ⟨fun y hy=>?_,hp⟩⟩
   rcases List.mem_cons.1 hy with rfl | hy
   ·exact hlt
   ·have:=hp2.1 y hy; omega
theorem srtO_spec : ∀ (es : List (V × V)) (l : List Nat),srtO es = some l → l.Pairwise (· < ·) ∧ ∃ ns : List Nat,es.map (·.1) = ns.map (fun n=>V.i .i64 (.ofNat n)) ∧ (∀ n ∈ ns,n ≤ 9223372036854775807) ∧ l.Perm ns
 | [],l,h=>by cases h; exact ⟨by simp,[],rfl,by simp,.refl _⟩
 | e::es,l,h=>by
  unfold srtO at h
  split at h
  ·rename_i n l' h1 h2
   obtain ⟨p1,ns,p2,p3,p4⟩:=srtO_spec es l' h2
   obtain ⟨k1,k2⟩:=keyN_spec h1
   obtain ⟨q1,q2⟩:=insO_spec n l' l h p1
   refine ⟨q2,n::ns,by simp [k1,p2],fun m hm=>?_,q1.trans (p4.cons n)⟩
   rcases List.mem_cons.1 hm with rfl | hm
   ·exact k2
   ·exact p3 m hm
  ·cases h
theorem ER.keys {μ : M} : ∀ {es : List (V × V)} {ms : List MapEntry} {ns : List Nat},ER μ es ms → es.map (·.1) = ns.map (fun n=>V.i .i64 (.ofNat n)) → ms.map (·.key) = ns.map fun n=>Value.int .i64 (.ofNat n)
 | [],ms,ns,h,e=>by
  cases ns with
  | nil=>simp only [ER] at h; rw [h]; rfl
  | cons n ns=>cases e
 | x::es,ms,ns,h,e=>by
  cases ns with
  | nil=>cases e
  | cons n ns =>
   obtain ⟨m,ms',rfl,h1,_,h3⟩:=h
   simp only [List.map_cons,List.cons.injEq] at e ⊢
   rw [e.1,VR.i_iff] at h1
   exact ⟨h1,h3.keys e.2⟩
def RU : Value → Option (DataW Unit × List MemPlace):=fun _=>some (.lit (.bool true),[])
theorem own_of {w : World} {g : Nat} {ms : Array MapEntry} {clock : Nat} {ns : List Nat} (hb : w.heap[g]? = some (.map ms clock)) (hk : ms.toList.map (·.key) = ns.map fun n=>Value.int .i64 (.ofNat n)) (hnd : ns.Nodup)
  (hle : ∀ n ∈ ns,n ≤ 9223372036854775807) (hbn : (ms.toList.map (·.born)).Nodup) (hc : ∀ e ∈ ms.toList,e.born < clock) (hsz : ns.length ≤ maxLen) :
  ∃ D0 : DataW Unit,w.ownsMap Tryz.prog 3 RU g ns.length D0 ∧ Maps.size D0 = ns.length ∧ (intKeys D0).Perm (ns.map Int.ofNat):=by
 have hU : Program.underlying Tryz.prog 3 = some (.int .i64):=by kernel_rfl
 have hlen : ms.size = ns.length:=by have:=congrArg List.length hk; simpa using this
 have hrd : ∀ x ∈ ms.toList,∃ n : Nat,x.key = .int .i64 (.ofNat n) ∧ Go.WideElems.rd Tryz.prog 3 RU x = some (.int .i64 (.ofNat n),.lit (.bool true)):=by
  intro x hx
  have h1 : x.key ∈ ms.toList.map (·.key):=List.mem_map.2 ⟨x,hx,rfl⟩
  rw [hk] at h1
  obtain ⟨n,hn,he⟩:=List.mem_map.1 h1
  refine ⟨n,he.symm,?_⟩
  have hw : (Lit.int .i64 (.ofNat n)).wf = true:=by
   have:=hle n hn
   have h1 : IntKind.min .i64 = -9223372036854775808:=by decide
   have h2 : IntKind.max .i64 = 9223372036854775807:=by decide
   simp only [Lit.wf,Bool.and_eq_true,decide_eq_true_eq,h1,h2]
   exact ⟨by simp,by simp; omega⟩
  unfold Go.WideElems.rd
  rw [← he,Maps.keyOf_int_mk hU hw]
  rfl
 refine ⟨.map ((ms.toList.map (Go.WideElems.rg Tryz.prog 3 RU)).foldr DataW.insert []),⟨ms,clock,hb,⟨by omega,⟨hc,hbn,?_⟩,fun x hx=>?_⟩,by omega,rfl⟩,?_,?_⟩
 ·rw [hk]
  exact List.pairwise_map.2 (hnd.imp fun {a b} h e=>h (by injection e with _ e2; exact Int.ofNat.inj e2))
 ·obtain ⟨n,_,h⟩:=hrd x hx
  exact ⟨_,h⟩
 ·simp [Maps.size,length_sorted,hlen]
 ·show ((ms.toList.map (Go.WideElems.rg Tryz.prog 3 RU)).foldr DataW.insert []).map (fun p=>intOf p.1) |>.Perm _
  refine ((Go.WideShapes.sorted_perm _).map _).trans ?_
  rw [List.map_map]
  have : ms.toList.map ((fun p=>intOf p.1) ∘ Go.WideElems.rg Tryz.prog 3 RU) = (ms.toList.map (·.key)).map fun v=>match v with | .int _ n=>n | _=>0:=by
   rw [List.map_map]
   refine List.map_congr_left fun x hx=>?_
   obtain ⟨n,h1,h2⟩:=hrd x hx
   show intOf (Go.WideElems.rg Tryz.prog 3 RU x).1 = _
   unfold Go.WideElems.rg
   rw [h2]
   simp [h1,intOf]
  rw [this,hk,List.map_map]
  exact .refl _
theorem sort_of {ss : List Int} {l ns : List Nat} (h : ss.Perm (ns.map Int.ofNat)) (hl : l.Perm ns) (hp : l.Pairwise (· < ·)) : ss.mergeSort (fun x y=>decide (x ≤ y)) = l.map Int.ofNat:=by
 have tr : ∀ a b c : Int,decide (a ≤ b) = true → decide (b ≤ c) = true → decide (a ≤ c) = true:=fun a b c h1 h2=>by simp only [decide_eq_true_eq] at *; exact Int.le_trans h1 h2
 have to : ∀ a b : Int,(decide (a ≤ b) || decide (b ≤ a)) = true:=fun a b=>by simp only [Bool.or_eq_true,decide_eq_true_eq]; exact Int.le_total a b
 refine List.Perm.eq_of_pairwise (le:=fun a b=>decide (a ≤ b) = true) (fun a b _ _ h1 h2=>?_) (List.pairwise_mergeSort tr to ss) ?_ (((List.mergeSort_perm ss _).trans h).trans (hl.map _).symm)
 ·simp only [decide_eq_true_eq] at h1 h2
  exact Int.le_antisymm h1 h2
 ·exact List.pairwise_map.2 (hp.imp fun {a b} h=>by simp only [decide_eq_true_eq]; exact Int.ofNat_le.2 (Nat.le_of_lt h))
section
variable {P : Program} {B : Bs} {μ : M} {h : H} {w : World}
theorem Ext.new2 (r : HR B μ h w) {w' : World} {g q N : Nat} {o : O} (hg : w.heap.size ≤ g) (hs : w.heap.size ≤ w'.heap.size)
  (hw : ∀ k,k < w.heap.size → w'.heap[k]? = w.heap[k]?) (h1 : w'.os = w.os) (h2 : w'.tape = w.tape) (h3 : w'.output = w.output) :
  Ext μ h w (M.new μ h.next (g,q) N) (h.new o) w':=by
 refine ⟨M.le_new r.next_none,Nat.le_succ _,h1,h2,h3,hs,fun k hk _=>hw k hk,?_,fun b hb=>M.new_ne _ _ _ (by omega)⟩
 intro b g q' hb hm hg
 by_cases e : h.next = b
 ·subst e
  rw [M.new_same] at hm; cases hm
  omega
 ·rw [M.new_ne _ _ _ e] at hm
  rw [H.get_new_ne h o e] at hb
  exact ⟨b,q',hb,hm⟩
theorem row_new (r : HR B μ h w) {w' : World} {v : Value} {x : Nat} {l : List Nat} (hrow : w'.ownsRow w.heap.size 3 1 v (l.length + 1) (((x::l).map Int.ofNat).map encZ)) (hv : v ≠ .slice none 0 0) (hb : Below w.heap.size w w') :
  ∃ μ',VR μ' (.sl h.next 0 (l.length + 1) 1 false) v ∧ HR B μ' (h.new (.cells (l.length + 1) (C.puts (mapI (x::l)) 0 .e) true)) w' ∧ Ext μ h w μ' (h.new (.cells (l.length + 1) (C.puts (mapI (x::l)) 0 .e) true)) w':=by
 obtain ⟨_,⟨e,_⟩ | ⟨g,cap,cur,rfl,hg,hcell,hn,hcap,hcur,htake⟩⟩:=hrow
 ·exact absurd e hv
 refine ⟨M.new μ h.next (g,0) cap,?_,?_,Ext.new2 r hg hb.size hb.block hb.os hb.tape hb.output⟩
 ·simp only [VR]
  exact ⟨g,0,cap,M.new_same _ _ _ _,by simp,hn,by intro e; exact absurd e (by decide),fun _=>by rw [M.new_cap]; omega⟩
 ·refine r.new hb.size (Nat.le_trans r.base hg) (fun b q' h1 h2=>?_) (fun k hk _=>hb.block k hk) ?_
  ·obtain ⟨g',q2,h3,_,h5⟩:=r.obj b h1
   rw [h2] at h3; cases h3
   have:=h5.lt h1
   omega
  ·refine ⟨cur,3,(0,0),hcell,fun _=>rfl,hn,by omega,fun i _=>by simp,fun i hi=>?_⟩
   have hi2 : i < (mapI (x::l)).length:=by simpa [mapI] using hi
   have hc : cur[0 + i]? = some (encZ (Int.ofNat ((x::l)[i]'(by simpa using hi)))):=by
    have hil : i < l.length + 1:=hi
    have h1 : (cur.toList.take ((l.length + 1) * 1))[i]? = some (encZ (Int.ofNat ((x::l)[i]'(by simpa using hi)))):=by
     rw [htake]
     rw [List.getElem?_map,List.getElem?_map,List.getElem?_eq_getElem (show i < (x::l).length by simpa using hi)]
     rfl
    rw [List.getElem?_take] at h1
    split at h1
    ·simpa using h1
    ·cases h1
   refine ⟨_,hc,?_⟩
   rcases puts0_at (mapI (x::l)) i hi2 with k | k
   ·rw [k]; exact VR.u _
   ·have e : C.at_ (C.puts (mapI (x::l)) 0 .e) i = .i .i64 (.ofNat ((x::l)[i]'(by simpa using hi))):=by
     have k2:=k
     simp only [mapI,List.getElem?_map] at k2
     rw [List.getElem?_eq_getElem (show i < (x::l).length by simpa using hi)] at k2
     exact (Option.some.inj k2).symm
    rw [e,VR.i_iff]
theorem row_nil (r : HR B μ h w) {w' : World} (hb : Below w.heap.size w w') : ∃ μ',HR B μ' (h.new .dead) w' ∧ Ext μ h w μ' (h.new .dead) w' :=
 ⟨M.new μ h.next (w.heap.size,0) 0,r.new hb.size r.base (fun b q' h1 h2=>by
   obtain ⟨g',q2,h3,_,h5⟩:=r.obj b h1
   rw [h2] at h3; cases h3
   exact absurd (h5.lt h1) (Nat.lt_irrefl _)) (fun k hk _=>hb.block k hk) trivial,
  Ext.new2 r (Nat.le_refl _) hb.size hb.block hb.os hb.tape hb.output⟩
end
theorem srtM_ok {B : Bs} {μ : M} {h h' : H} {w : World} {v : V} (r : HR B μ h w) {m : Nat} (hs : srtM h m = some (v,h')) : ∃ g q,μ m = some (g,q) ∧ ∃ (l ns : List Nat) (D0 : DataW Unit),l.Pairwise (· < ·) ∧ l.Perm ns ∧ w.ownsMap Tryz.prog 3 RU g ns.length D0 ∧ Maps.size D0 = ns.length ∧ (intKeys D0).Perm (ns.map Int.ofNat) ∧ ns.length ≤ 1000001 ∧
  ((l = [] ∧ v = .sn ∧ h' = h.new .dead) ∨ ∃ x l',l = x::l' ∧ v = .sl h.next 0 (l'.length + 1) 1 false ∧ h' = h.new (.cells (l'.length + 1) (C.puts (mapI (x::l')) 0 .e) true)):=by
 unfold srtM at hs
 split at hs
 ·rename_i es hes
  obtain ⟨g,q,h1,h2,h3⟩:=r.obj m (by rw [hes]; simp)
  rw [hes] at h3
  obtain ⟨ms,clock,k1,k2,k3,k4⟩:=h3
  refine ⟨g,q,h1,?_⟩
  cases ho : srtO es with
  | none=>rw [ho] at hs; cases hs
  | some l =>
   rw [ho] at hs
   obtain ⟨p1,ns,p2,p3,p4⟩:=srtO_spec es l ho
   have hnd : ns.Nodup:=p4.nodup_iff.1 (p1.imp fun {a b} h=>Nat.ne_of_lt h)
   have hlen : l.length = ns.length:=p4.length_eq
   have hml : (1000001 : Nat) ≤ maxLen:=by decide
   cases l with
   | nil =>
    cases hs
    obtain ⟨D0,d1,d2,d3⟩:=own_of k1 (k2.keys p2) hnd p3 k3 k4 (by simp at hlen; omega)
    exact ⟨[],ns,D0,p1,p4,d1,d2,d3,by simp at hlen; omega,.inl ⟨rfl,rfl,rfl⟩⟩
   | cons x l' =>
    simp only at hs
    cases hb : Nat.ble l'.length 1000000 <;> rw [hb] at hs
    ·cases hs
    cases hs
    have hle:=Nat.le_of_ble_eq_true hb
    have hln : ns.length ≤ 1000001:=by simp at hlen; omega
    obtain ⟨D0,d1,d2,d3⟩:=own_of k1 (k2.keys p2) hnd p3 k3 k4 (by omega)
    exact ⟨x::l',ns,D0,p1,p4,d1,d2,d3,hln,.inr ⟨x,l',rfl,rfl,rfl⟩⟩
 ·cases hs
theorem insG_ok (n0 : Nat) (vs : List V) (h : H) (v : V) (h' : H) (he : rcB (.h insG) vs h = .ok v h') : CallOK Tryz.prog (bsG n0) 8 vs h (.ok v h'):=by
 have he2 : rcO (insG vs h) = .ok v h':=he
 have he3 : insG vs h = some (v,h'):=by
  cases hi : insG vs h with
  | none=>rw [hi] at he2; cases he2
  | some x=>obtain ⟨v1,h1⟩:=x; rw [hi] at he2; cases he2; rfl
 clear he he2
 refine .inl ⟨⟨_,_,Tryz.func8,by kernel_rfl,rfl⟩,fun μ w args r ha=>?_⟩
 unfold insG at he3
 split at he3
 ·rename_i b o
  obtain ⟨y,ys,e,h1,h2⟩:=VRs.cons_iff.1 ha
  rw [VRs.nil_iff.1 h2] at e
  obtain rfl : args = #[y]:=Array.ext' (by rw [e])
  split at he3
  ·rename_i n c z hb
   cases hle : Nat.ble (o + 36) n <;> rw [hle] at he3
   ·cases he3
   have hon : o + 36 ≤ n:=Nat.le_of_ble_eq_true hle
   simp only [VR] at h1
   obtain ⟨g,q,hm,rfl⟩:=h1
   obtain ⟨g1,q1,v0,m1,c0,_,e0,_⟩:=r.cell hb (o:=o) (by omega)
   rw [hm] at m1; cases m1
   simp only at he3
   split at he3
   ·rename_i x hx
    rw [hx,VR.b_iff] at e0
    rw [e0] at c0
    cases x
    ·cases he3
     exact (Tryz.inside_shut g (q + o) w c0).mono fun e w' ⟨k1,k2⟩=>by
      rw [k1,k2]
      exact ⟨_,μ,rfl,by simp only [VR],r,Ext.refl _ _ _⟩
    ·simp only at he3
     split at he3
     ·rename_i m hx2
      obtain ⟨g2,q2,v2,m2,c2,_,e2,_⟩:=r.cell hb (o:=o + 35) (by omega)
      rw [hm] at m2; cases m2
      rw [hx2] at e2
      simp only [VR] at e2
      obtain ⟨gm,qm,hm2,rfl⟩:=e2
      have rr:=r.rsv 1
      obtain ⟨gm',qm',hm3,l,ns,D0,p1,p2,d1,d2,d3,d4,hv⟩:=srtM_ok rr he3
      rw [hm2] at hm3; cases hm3
      have hml : (1000001 : Nat) ≤ maxLen:=by decide
      refine (Tryz.inside_ok g (q + o) gm ns.length D0 RU w c0 (by rw [Nat.add_assoc]; exact c2) d1 (by omega) (by omega)).mono fun e w' ⟨vv,ss,k1,k2,k3,k4,k5⟩=>?_
      subst k1
      have hperm:=k2.trans d3
      rw [sort_of hperm p2 p1] at k3
      have hsl : ss.length = l.length:=by rw [hperm.length_eq,List.length_map,p2.length_eq]
      rcases hv with ⟨rfl,rfl,rfl⟩ | ⟨x,l',rfl,rfl,rfl⟩
      ·have hn : vv = .slice none 0 0:=k4.2 (List.eq_nil_of_length_eq_zero hsl)
       obtain ⟨μ',f1,f2⟩:=row_nil rr k5
       exact ⟨vv,μ',rfl,by rw [hn]; simp only [VR],f1,(Ext.rsv 1).trans f2⟩
      ·rw [hsl] at k3
       obtain ⟨μ',f0,f1,f2⟩:=row_new rr k3 (fun e=>by have:=k4.1 e; rw [this] at hsl; cases hsl) k5
       exact ⟨vv,μ',rfl,f0,f1,(Ext.rsv 1).trans f2⟩
     ·cases he3
   ·cases he3
  ·cases he3
 ·cases he3
end Go.X
namespace Go.X
open Go Go.RowKit Go.Proofs
def brg (i n : Int) : Int:=if i.tmod n < 0 then i.tmod n + n else i.tmod n
theorem brg_emod (i n : Int) (h : 0 < n) : brg i n = i % n:=by
 have h1:=Int.tmod_lt_of_pos i h
 have h2:=Int.lt_tmod_of_pos i h
 have h3:=Int.mul_tdiv_add_tmod i n
 have h4 : ∃ k : Int,i = brg i n + n * k:=by
  unfold brg
  split
  ·exact ⟨i.tdiv n - 1,by rw [Int.mul_sub]; omega⟩
  ·exact ⟨i.tdiv n,by omega⟩
 have h5 : 0 ≤ brg i n ∧ brg i n < n:=by unfold brg; split <;> omega
 obtain ⟨k,hk⟩:=h4
 have : i % n = brg i n % n:=by
  conv=>lhs; rw [hk]
  exact Int.add_mul_emod_self_left _ _ _
 rw [this,Int.emod_eq_of_lt h5.1 h5.2]
theorem Tryz.bring_any (i n : Int) (w : World) (h0 : 0 < n) (h1 : n ≤ 9223372036854775807) :
  Calls Tryz.prog 6 #[.int .i64 i,.int .i64 n] w fun e w'=>e = .returned (.int .i64 (i % n)) ∧ w = w':=by
 have e : i % n = if i.tmod n < 0 then i.tmod n + n else i.tmod n:=(brg_emod i n h0).symm
 have ha:=Int.tmod_lt_of_pos i h0
 have hc:=Int.lt_tmod_of_pos i h0
 have E:=Lib.hid e
 clear e
 go_enter Tryz.func6,Tryz.ntmps6
 go_wp2
 all_goals go_ret
 all_goals rw [E.out]
 all_goals show Ending.returned (Value.int _ _) = _ ∧ _
 ·rw [if_pos ‹_›]; exact ⟨rfl,rfl⟩
 ·rw [if_neg (by omega)]; exact ⟨rfl,rfl⟩
noncomputable def brG (vs : List V) : Option V :=
 match vs with
 | [.z k n,.i .i64 (.ofNat m)]=>Bool.rec none (some (.i .i64 (.ofNat (Nat.mod n 1024)))) (Nat.beq k 0 && (Nat.beq m (Nat.div n 1024) && (Nat.ble 1 m && Nat.ble m 1024)))
 | [.i .i64 (.ofNat a),.i .i64 (.ofNat m)]=>Bool.rec none (some (.i .i64 (.ofNat (Nat.mod a m)))) (Nat.ble 1 m && Nat.ble m 9223372036854775807)
 | _=>none
theorem brG_ok : PG 6 brG:=by
 intro n0 vs v h he
 refine .inl ⟨⟨_,_,Tryz.func6,by kernel_rfl,rfl⟩,fun μ w args r ha=>?_⟩
 unfold brG at he
 split at he
 ·rename_i k n m
  obtain ⟨x,y,e,h1,h2⟩:=vrs2 ha
  obtain rfl : args = #[x,y]:=Array.ext' (by rw [e])
  cases hc : (Nat.beq k 0 && (Nat.beq m (Nat.div n 1024) && (Nat.ble 1 m && Nat.ble m 1024))) <;> rw [hc] at he
  ·cases he
  cases he
  simp only [Bool.and_eq_true] at hc
  have k1:=Nat.eq_of_beq_eq_true hc.1
  have k2:=Nat.eq_of_beq_eq_true hc.2.1
  have k3:=Nat.le_of_ble_eq_true hc.2.2.1
  have k4:=Nat.le_of_ble_eq_true hc.2.2.2
  subst k1
  rw [VR.z0_iff] at h1
  rw [VR.i_iff] at h2
  obtain ⟨i,rfl,hi⟩:=h1
  subst h2
  refine (Tryz.bring_any i (Int.ofNat m) w (by simp; omega) (by simp; omega)).mono fun e w' ⟨e1,e2⟩=>?_
  subst e2
  refine ⟨_,μ,e1,?_,r,Ext.refl _ _ _⟩
  rw [VR.i_iff]
  have k2' : m = n / 1024:=k2
  have : i % Int.ofNat m = ((n % 1024 : Nat) : Int):=by rw [k2']; exact hi
  rw [this]; rfl
 ·rename_i a m
  obtain ⟨x,y,e,h1,h2⟩:=vrs2 ha
  obtain rfl : args = #[x,y]:=Array.ext' (by rw [e])
  cases hc : (Nat.ble 1 m && Nat.ble m 9223372036854775807) <;> rw [hc] at he
  ·cases he
  cases he
  simp only [Bool.and_eq_true] at hc
  have k3:=Nat.le_of_ble_eq_true hc.1
  have k4:=Nat.le_of_ble_eq_true hc.2
  rw [VR.i_iff] at h1 h2
  subst h1
  subst h2
  refine (Tryz.bring_any (Int.ofNat a) (Int.ofNat m) w (by simp; omega) (by simp; omega)).mono fun e w' ⟨e1,e2⟩=>?_
  subst e2
  exact ⟨_,μ,e1,by rw [VR.i_iff]; rfl,r,Ext.refl _ _ _⟩
 ·cases he
end Go.X
