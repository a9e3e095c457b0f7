/- Engine, third text: pointers compared, arrays sliced, slices built and grown where the order is drawn. It speaks of no program. -/
import Derived.Test.YtakdjabamjgcfaaEngB
import Derived.LaidEql
namespace Go.Par
open Go PH

def ptOf (P : Program) (t : TypeId) : Option TypeId :=
  match P.underlying t with
  | some (.pointer e) => some e
  | _ => none
theorem ptOf_under {P : Program} {t e : TypeId} (h : ptOf P t = some e) : P.underlying t = some (.pointer e) := by
  unfold ptOf at h
  split at h
  · rename_i hu; simp at h; subst h; exact hu
  · cases h
section
variable {P : Program} {n : Nat} {ops : Array Oper} {l : List Oper} {o : Oper} {E : Env} {D : List Deferred} {R : List SL} {h : PH} {K : S → Prop} {Q : Exit → S → Prop}
theorem run_eqPn {t e : TypeId} (w : World) (ht : P.underlying t = some (.pointer e)) (a : Option Addr) : (Op.equal t (.pointer a) (.pointer none)).run P w = .ok a.isNone w := by
  show (Op.equalIn (9999 + 1) t (.pointer a) (.pointer none)).run P w = _
  rw [Op.equalIn]
  cases a <;> simp [run_underlying w ht]
theorem X_eqPn_t {t u e : TypeId} {x y : Operand} (ho : o.op = .binOp .eql t x y u) (ht : ptOf P t = some e) (hx : ev E x = some (.pointer none)) (hy : ev E y = some (.pointer none)) : Exec P n o ⟨E, D, R, h⟩ (Is (.bool true) R h) :=
  Exec_is fun ac w ha => by simp [execOp, ho, ha.ev hx, ha.ev hy, eqGuard, binOp, run_eqPn w (ptOf_under ht)]
theorem X_eqPn_f {t u e : TypeId} {x y : Operand} {a : Addr} (ho : o.op = .binOp .eql t x y u) (ht : ptOf P t = some e) (hx : ev E x = some (.pointer (some a))) (hy : ev E y = some (.pointer none)) : Exec P n o ⟨E, D, R, h⟩ (Is (.bool false) R h) :=
  Exec_is fun ac w ha => by simp [execOp, ho, ha.ev hx, ha.ev hy, eqGuard, binOp, run_eqPn w (ptOf_under ht)]
theorem X_nePn_t {t u e : TypeId} {x y : Operand} {a : Addr} (ho : o.op = .binOp .neq t x y u) (ht : ptOf P t = some e) (hx : ev E x = some (.pointer (some a))) (hy : ev E y = some (.pointer none)) : Exec P n o ⟨E, D, R, h⟩ (Is (.bool true) R h) :=
  Exec_is fun ac w ha => by simp [execOp, ho, ha.ev hx, ha.ev hy, eqGuard, binOp, run_eqPn w (ptOf_under ht)]
theorem X_nePn_f {t u e : TypeId} {x y : Operand} (ho : o.op = .binOp .neq t x y u) (ht : ptOf P t = some e) (hx : ev E x = some (.pointer none)) (hy : ev E y = some (.pointer none)) : Exec P n o ⟨E, D, R, h⟩ (Is (.bool false) R h) :=
  Exec_is fun ac w ha => by simp [execOp, ho, ha.ev hx, ha.ev hy, eqGuard, binOp, run_eqPn w (ptOf_under ht)]
/-- A number of something, or nothing. -/
theorem X_eqPnI {t u e : TypeId} {x y : Operand} {a : Option Addr} {c : Bool} (ho : o.op = .binOp .eql t x y u) (ht : ptOf P t = some e) (hx : ev E x = some (.pointer a)) (hy : ev E y = some (.pointer none)) (hc : a.isNone = c) : Exec P n o ⟨E, D, R, h⟩ (Is (.bool c) R h) :=
  Exec_is fun ac w ha => by subst hc; simp [execOp, ho, ha.ev hx, ha.ev hy, eqGuard, binOp, run_eqPn w (ptOf_under ht)]
theorem X_nePnI {t u e : TypeId} {x y : Operand} {a : Option Addr} {c : Bool} (ho : o.op = .binOp .neq t x y u) (ht : ptOf P t = some e) (hx : ev E x = some (.pointer a)) (hy : ev E y = some (.pointer none)) (hc : a.isSome = c) : Exec P n o ⟨E, D, R, h⟩ (Is (.bool c) R h) :=
  Exec_is fun ac w ha => by subst hc; cases a <;> simp [execOp, ho, ha.ev hx, ha.ev hy, eqGuard, binOp, run_eqPn w (ptOf_under ht)]
/-- Two pointers to variables that are known. -/
theorem X_eqPP {t u e : TypeId} {x y : Operand} {a b sz : Nat} {ca cb : List Value} {ta tb : TypeId} (ho : o.op = .binOp .eql t x y u) (ht : ptOf P t = some e) (hs : szOf P e = some sz) (h0 : Nat.beq sz 0 = false)
    (hx : ev E x = some (.pointer (some ⟨a, 0, none⟩))) (hy : ev E y = some (.pointer (some ⟨b, 0, none⟩))) (ha : h a = some (.cells ca.toArray ta (0, 0))) (hb : h b = some (.cells cb.toArray tb (0, 0))) :
    Exec P n o ⟨E, D, R, h⟩ (Is (.bool (decide (a = b))) R h) :=
  Exec_of_run fun κ h0' f ac w hf hac hw => by
    have ha' := hw.h_in hf _ _ ha
    have hb' := hw.h_in hf _ _ hb
    have hsz : sz ≠ 0 := by intro e; subst e; simp at h0
    have hr : (Op.equal t (.pointer (some ⟨a, 0, none⟩)) (.pointer (some ⟨b, 0, none⟩))).run P w = .ok (decide (a = b)) w := by
      show (Op.equalIn (9999 + 1) t (.pointer (some ⟨a, 0, none⟩)) (.pointer (some ⟨b, 0, none⟩))).run P w = _
      rw [Op.equalIn]
      by_cases e : a = b
      · subst e
        simp [run_underlying w (ptOf_under ht), run_sizeOf w hs, run_sameAddr_same]
      · have hne : (⟨a, 0, none⟩ : Addr) ≠ ⟨b, 0, none⟩ := by intro h; exact e (by injection h)
        simp [run_underlying w (ptOf_under ht), run_sizeOf w hs, hsz, run_sameAddr_other w hne ha' hb', e]
    exact ⟨_, R, h, w, .inl (by simp [execOp, ho, hac.ev hx, hac.ev hy, eqGuard, binOp, hr]), le.refl _, hw, rfl, rfl, rfl⟩
/-- An array, as a slice. -/
theorem X_sliceArr {x : Operand} {t e : TypeId} {b off len sz : Nat} (ho : o.op = .slice t x none none none) (ht : arOf P t = some (len, e)) (hs : szOf P e = some sz) (hx : ev E x = some (.pointer (some ⟨b, off, none⟩))) :
    Exec P n o ⟨E, D, R, h⟩ (Is (.slice (some ⟨b, off, none⟩) len len) R h) :=
  Exec_is fun a w ha => by
    simp [execOp, ho, ha.ev hx, Instr.sliceAt, Instr.sliceBounds, Instr.sureAddr, run_underlying w (arOf_under ht), run_sizeOf w hs, add_spot]

/-- An element of an array value, at a place that is told. -/
theorem X_index_valS {x y : Operand} {t e : TypeId} {len sz q : Nat} {k : IntKind} {j : Int} {cs : List Value} {v : Value} (ho : o.op = .index t x y) (ht : arOf P t = some (len, e)) (hs : szOf P e = some sz) (he : isA P e = some false)
    (hx : ev E x = some (.agg cs.toArray)) (hy : ev E y = some (.int k j)) (h0 : 0 ≤ j) (h1 : j < len) (hq : j.toNat * sz = q) (hv : cs[q]? = some v) :
    Exec P n o ⟨E, D, R, h⟩ (Is v R h) := X_index_val ho ht hs he hx hy h0 h1 (by rw [hq]; exact hv)
theorem rd_all {c : List Value} : ∀ {n : Nat}, c.length = n → rd c 0 n = some c := fun {n} hn => rd_of hn (fun j _ => by simp)
/-- All of a variable of several cells. -/
theorem X_loadAll {x : Operand} {t t0 : TypeId} {b i sz : Nat} {c : List Value} (ho : o.op = .load t x) (hx : ev E x = some (.pointer (some ⟨b, 0, none⟩))) (hi : R[i]? = some (blk b c t0))
    (ht : isA P t = some true) (hs : szOf P t = some sz) (hc : c.length = sz) : Exec P n o ⟨E, D, R, h⟩ (Is (.agg c.toArray) R h) := X_loadA ho hx hi ht hs (rd_all hc)
theorem Upd.wkn {R R' : List SL} {h : PH} (H : ∀ g, stars R g → stars R' g) : Upd R h R' h := fun κ h0 f w _ s => by
  obtain ⟨a, g, k, e, hr, rest⟩ := s
  exact ⟨a, g, k, e, H g hr, rest⟩
theorem UpdE.wkn {R : List SL} {h : PH} {A : List SL → Prop} (H : ∀ g, stars R g → ∃ R', A R' ∧ stars R' g) : UpdE R h fun R' h' => h' = h ∧ A R' := fun κ h0 f w _ s => by
  obtain ⟨a, g, k, e, hr, rest⟩ := s
  obtain ⟨R', hA, hr'⟩ := H g hr
  exact ⟨R', h, le.refl _, ⟨rfl, hA⟩, a, g, k, e, hr', rest⟩
theorem Sl_of_blk {α : Type} {enc : α → List Value} {e : TypeId} {sz b : Nat} {c : List Value} {L : List α} {g h : PH} (hb : blk b c e g) (hg : le g h) (hc : c = L.flatMap enc) (he : ∀ x ∈ L, (enc x).length = sz) : Sl enc sz h (.slice (some ⟨b, 0, none⟩) L.length L.length) L := by
  have hb' : h b = some (.cells c.toArray e (0, 0)) := hg b _ (by have : g = one b (.cells c.toArray e (0, 0)) := hb; rw [this]; simp [one])
  refine ⟨he, some ⟨b, 0, none⟩, L.length, rfl, Nat.le_refl _, by simp, .inr ⟨b, 0, c, e, (0, 0), rfl, hb', ?_⟩⟩
  intro j hj q hq
  rw [← flat_get' L he j hj q hq, ← hc]
  simp

/-- append to a slice of one's own: the operation alone. -/
theorem X_appendO {α : Type} {enc : α → List Value} {x y : Operand} {t tx e : TypeId} {sz by_ i : Nat} {v u : Value} {L L' : List α} (ho : o.op = .call ⟨.builtin .append, #[x, y], #[t, tx]⟩) (hx : ev E x = some v) (hy : ev E y = some u)
    (ht : ElemT P t e sz by_) (htx : slOf P tx = some e) (hi : R[i]? = some (rowL enc v e sz L)) (hsrc : Src P R h u sz L'.length (L'.flatMap enc)) (hfl : ∀ x ∈ L', (enc x).all flat = true)
    (hb : (L.length + L'.length) * by_ ≤ 140737488355328) (hm : L.length + L'.length ≤ 9223372036854775807) :
    Exec P n o ⟨E, D, R, h⟩ (Ret fun v' R' h' => R' = R.set i (rowL enc v' e sz (L ++ L')) ∧ h' = h) := by
  refine Exec_of_run fun κ h0 f a w hf ha hw => ?_
  have hall : (L'.flatMap enc).all flat = true := by
    rw [List.all_flatMap]; simp only [List.all_eq_true]; intro x hx; have := hfl x hx; simpa using this
  obtain ⟨v', w', hr, hs⟩ := run_append hf hw ht htx hi hsrc hall hb hm o.type
  refine ⟨v', _, h, w', .inl ?_, le.refl _, hs, ?_⟩
  · simp only [execOp, ho, resolve, invoke, builtin, Sem.run_bind, Sem.run_pure, Result.andThen_ok]
    simp [ha.ev hx, ha.ev hy, hr]
  · refine ⟨?_, rfl⟩
    simp only [rowL, List.length_append, List.flatMap_append]
/-- A slice written out: the operation alone. -/
theorem X_buildSliceO {t e : TypeId} {len sz : Nat} {ps : Array (Nat × Operand)} {vs : List (Nat × Value)} {z : Value} {zs rs cs : List Value} (ho : o.op = .buildSlice t len ps) (hp : evp E ps.toList = some vs) (ht : slOf P t = some e) (hs : szOf P e = some sz)
    (hz : zeOf P e = some z) (hzv : vcO z = some zs) (hzl : Nat.beq zs.length sz = true) (hr : repO len zs = some rs) (hlim : Nat.ble (len * sz) 16777216 = true) (hf : fillO (fun i => some (i * sz, sz)) rs vs = some cs) :
    Exec P n o ⟨E, D, R, h⟩ (Ret fun v' R' h' => ∃ b, v' = .slice (some ⟨b, 0, none⟩) len len ∧ R' = blk b cs e :: R ∧ h' = h) := by
  refine Exec_of_run fun κ h0 f a w _ ha hw => ?_
  refine ⟨_, _, h, _, .inl ?_, le.refl _, hw.new (.cells cs.toArray e (0, 0)), w.heap.size, rfl, rfl, rfl⟩
  have e1 : ps.map (fun (i, x) => (i, a.eval x)) = vs.toArray := map_arr (evp_eq ha hp)
  have hzl' : zs.length = sz := Nat.eq_of_beq_eq_true hzl
  have hlim' : ¬ len * sz > 2 ^ 24 := by have := Nat.le_of_ble_eq_true hlim; omega
  have hzc : z.cells = zs.toArray := by rw [vc_cells, vcO_eq hzv]
  have hF := fill_fillO hf
  simp only [execOp, ho, e1, Instr.buildSlice, Sem.run_bind, run_underlying w (slOf_under ht), Result.andThen_ok, run_sizeOf w hs, hlim', if_false]
  by_cases h0 : len * sz = 0
  · have hr' : (Array.range (len * sz)).map (fun j => (#[] : Array Value)[j % (#[] : Array Value).size]!) = rs.toArray := by
      rw [repO_eq hr]
      have : (List.replicate len zs).flatten = [] := List.eq_nil_of_length_eq_zero (by simp [hzl', h0])
      rw [this, h0]; simp
    simp only [h0, if_true, Sem.run_bind, Sem.run_pure, Result.andThen_ok]
    rw [h0] at hr'
    rw [hr', hF]
    simp [newRow]
  · have hr' : (Array.range (len * sz)).map (fun j => zs.toArray[j % zs.toArray.size]!) = rs.toArray := by
      rw [repO_eq hr]; subst hzl'; exact rep_arr zs len
    simp only [h0, if_false, Sem.run_bind, run_zeroValue w hz, Result.andThen_ok, Sem.run_pure, hzc]
    rw [hr', hF]
    simp [newRow]
end

section
variable {P : Program} {n : Nat} {ops : Array Oper} {l : List Oper} {o : Oper} {E0 : Env} {D : List Deferred} {R : List SL} {h : PH} {K : Done → Prop} {i : Nat} {dn : Done}
/-- What an operation has, known for good. -/
theorem Exec_updE {E : Env} {A B : Value → List SL → PH → Prop} (H : Exec P n o ⟨E, D, R, h⟩ (Ret A)) (u : ∀ v R' h', A v R' h' → UpdE R' h' (B v)) : Exec P n o ⟨E, D, R, h⟩ (Ret B) :=
  fun κ h0 f a w hf ha hw next Q h1 h2 => by
    refine H κ h0 f a w hf ha hw next Q ?_ ?_
    · rintro v R' h' w' hle hs hA
      obtain ⟨R'', h'', hle', hB, hs'⟩ := u v R' h' hA κ h0 f w' hf hs
      exact h1 v R'' h'' w' (hle.trans hle') hs' hB
    · rintro ch R' h' w' _ _ hA; exact hA.elim
/-- A slice written out, that is only read. -/
theorem RG_buildSl {α : Type} {enc : α → List Value} {sz : Nat} (L : List α) (hlen : ∀ x ∈ L, (enc x).length = sz) {t e : TypeId} {len : Nat} {ps : Array (Nat × Operand)} {vs0 : List (Nat × Value)} {z : Value} {zs rs cs : List Value} {d : Tmp}
    (ho : o.op = .buildSlice t len ps) (hp : ∀ vs, evp (av o.after.toList vs dn ++ E0) ps.toList = some vs0) (ht : slOf P t = some e) (hs : szOf P e = some sz)
    (hz : zeOf P e = some z) (hzv : vcO z = some zs) (hzl : Nat.beq zs.length sz = true) (hr : repO len zs = some rs) (hlim : Nat.ble (len * sz) 16777216 = true) (hf : fillO (fun i => some (i * sz, sz)) rs vs0 = some cs)
    (hL : L.length = len) (hc : cs = L.flatMap enc) (hd : o.dst = some d) (hn : Nat.blt d n = true) (hg : ∀ vs, gd ops (av o.after.toList vs dn ++ E0) o = some true)
    (k : RG P n ops E0 D R h K (i + 1) l ((i, some d, .opq (fun v h => Sl enc sz h v L) [] fun _ => []) :: dn)) : RG P n ops E0 D R h K i (o :: l) dn := by
  refine RG_gen (.opq (fun v h => Sl enc sz h v L) [] fun _ => []) (fun _ _ _ hl x => x.mono hl) hd hn hg ?_ k
  intro vs h' _ _
  subst hL; subst hc
  refine (Exec_updE (B := fun v R' h'' => Sl enc sz h'' v L ∧ R' = R) (X_buildSliceO (R := R) ho (hp vs) ht hs hz hzv hzl hr hlim hf) ?_).mono ?_
  · rintro v R' h'' ⟨b, rfl, rfl, rfl⟩
    have hcl : (L.flatMap enc).length = L.length * sz := flat_len L hlen
    refine (UpdE.of (A := fun R' _ => R' = _) (Upd.blkrow (cap := L.length) (m := L.length) (sz := sz) (xs := L.flatMap enc) 0 rfl (Nat.le_refl _) hcl (by rw [← hcl, List.take_length])) rfl).then ?_
    rintro R' h1 - rfl
    refine (UpdE.row (enc := enc) (L := L) 0 rfl hlen).mono ?_
    rintro R'' h2 - ⟨rfl, hsl⟩
    exact ⟨hsl, rfl⟩
  · rintro e R' h'' - hA
    cases e with
    | returned v => exact ⟨v, rfl, hA.1, by rw [hA.2]; exact SubR.refl _⟩
    | panicked ch => exact hA.elim
    | outgrown => exact hA.elim
/-- append to a slice of one's own. -/
theorem RG_append {α : Type} {enc : α → List Value} {sz : Nat} {x y : Operand} {t tx e : TypeId} {by_ : Nat} {v : Value} {u : (Nat → Value) → Value} {L L' : List α} {d : Tmp} (ho : o.op = .call ⟨.builtin .append, #[x, y], #[t, tx]⟩)
    (hx : ∀ vs, ev (av o.after.toList vs dn ++ E0) x = some v) (hy : ∀ vs, ev (av o.after.toList vs dn ++ E0) y = some (u vs))
    (ht : ElemT P t e sz by_) (htx : slOf P tx = some e) (hsrc : ∀ vs h', le h h' → fc o.after.toList vs h' dn → Sl enc sz h' (u vs) L') (hfl : ∀ x ∈ L', (enc x).all flat = true)
    (hb : (L.length + L'.length) * by_ ≤ 140737488355328) (hm : L.length + L'.length ≤ 9223372036854775807) (hd : o.dst = some d) (hn : Nat.blt d n = true) (hg : ∀ vs, gd ops (av o.after.toList vs dn ++ E0) o = some true)
    (k : RG P n ops E0 D R h K (i + 1) l ((i, some d, .opq (fun _ _ => True) [rowL enc v e sz L] fun v' => [rowL enc v' e sz (L ++ L')]) :: dn)) : RG P n ops E0 D R h K i (o :: l) dn := by
  refine RG_gen (.opq (fun _ _ => True) [rowL enc v e sz L] fun v' => [rowL enc v' e sz (L ++ L')]) (fun _ _ _ _ _ => trivial) hd hn hg ?_ k
  intro vs h' hl hf
  refine (X_appendO (enc := enc) (R := [rowL enc v e sz L] ++ R) (i := 0) ho (hx vs) (hy vs) ht htx rfl (Src.sl (hsrc vs h' hl hf)) hfl hb hm).mono ?_
  rintro e R' h'' - hA
  cases e with
  | returned v' => exact ⟨v', rfl, trivial, by rw [hA.1]; exact SubR.refl _⟩
  | panicked ch => exact hA.elim
  | outgrown => exact hA.elim
end
section
variable {P : Program} {n : Nat} {ops : Array Oper} {l : List Oper} {o : Oper} {E : Env} {D : List Deferred} {R : List SL} {h : PH} {K : S → Prop} {Q : Exit → S → Prop}
/-- A slice written out, that is only read. -/
theorem WL_buildSl {α : Type} {enc : α → List Value} {sz : Nat} (L : List α) (hlen : ∀ x ∈ L, (enc x).length = sz) {t e : TypeId} {len : Nat} {ps : Array (Nat × Operand)} {vs0 : List (Nat × Value)} {z : Value} {zs rs cs : List Value} {d : Tmp}
    (ho : o.op = .buildSlice t len ps) (hp : evp E ps.toList = some vs0) (ht : slOf P t = some e) (hs : szOf P e = some sz)
    (hz : zeOf P e = some z) (hzv : vcO z = some zs) (hzl : Nat.beq zs.length sz = true) (hr : repO len zs = some rs) (hlim : Nat.ble (len * sz) 16777216 = true) (hf : fillO (fun i => some (i * sz, sz)) rs vs0 = some cs)
    (hL : L.length = len) (hc : cs = L.flatMap enc) (hd : o.dst = some d) (hg : gd ops E o = some true) (hn : Nat.blt d n = true)
    (k : ∀ v h', le h h' → Sl enc sz h' v L → WL P n ops l ⟨(d, v) :: E, D, R, h'⟩ K Q) : WL P n ops (o :: l) ⟨E, D, R, h⟩ K Q := by
  subst hL; subst hc
  refine WL_buildSlice ho hp ht hs hz hzv hzl hr hlim hf hd hg hn ?_
  intro b
  have hcl : (L.flatMap enc).length = L.length * sz := flat_len L hlen
  refine WL_upd (Upd.blkrow (cap := L.length) (m := L.length) (sz := sz) (xs := L.flatMap enc) 0 rfl (Nat.le_refl _) hcl (by rw [← hcl, List.take_length])) ?_
  refine WL_updE (UpdE.row (enc := enc) (L := L) 0 rfl hlen) ?_
  rintro R'' h2 hl2 ⟨rfl, hsl⟩
  exact k _ h2 hl2 hsl
end
section
variable {P : Program} {n : Nat} {ops : Array Oper} {l : List Oper} {E : Env} {D : List Deferred} {R R0 : List SL} {h : PH} {K : S → Prop} {Q : Exit → S → Prop}
/-- The end of a region some of whose operations took what was owned. -/
theorem RG_endC {dn : Done} {E0 : Env} {E' : (Nat → Value) → Env} {R' : (Nat → Value) → List SL} {F : (Nat → Value) → PH → Prop} (hC : R.Perm (allC dn ++ R0)) (hE : ∀ vs, endE vs dn ++ E0 = E' vs) (hR : ∀ vs, endR vs dn ++ (R0 ++ []) = R' vs) (hF : ∀ vs h', endF vs h' dn → F vs h')
    (k : ∀ vs h', le h h' → F vs h' → WL P n ops l ⟨E' vs, D, R' vs, h'⟩ K Q) :
    R.Perm (allC dn ++ (R0 ++ [])) ∧ ((∀ vs h', le h h' → endF vs h' dn → WL P n ops l ⟨endE vs dn ++ E0, D, endR vs dn ++ (R0 ++ []), h'⟩ K Q) ∨ (∀ vs, WL P n ops l ⟨endE vs dn ++ E0, D, endR vs dn ++ (R0 ++ []), h⟩ K Q)) :=
  ⟨by rw [List.append_nil]; exact hC, .inl fun vs h' hle hf => by rw [hE, hR]; exact k vs h' hle (hF vs h' hf)⟩
end
end Go.Par
