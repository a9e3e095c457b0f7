/- Parts of one text, one behind the other: EngB EngC EngD EngE EngF EngG EngH EngI EngJ. -/
import Derived.Test.YtmohiefnoflndaaEng
import Derived.LaidEql
import Derived.Scope
import Derived.Laws.Externs
import Derived.Lib.Bytealg
/- Engine, second text: what is owned is lent for a call. It speaks of no program. -/
namespace Go.Par
open Go PH

theorem stars_app : ∀ {R S : List SL} {a b : PH}, stars R a → stars S b → dj a b → stars (R ++ S) (un a b)
  | [], S, a, b, ha, hb, _ => by
    have ha : a = none_ := ha
    subst ha; rw [un_none_left]; exact hb
  | r :: R, S, a, b, ⟨x, y, e, hd, hx, hy⟩, hb, hab => by
    subst e
    have := dj_un_left.1 hab
    refine ⟨x, un y b, un_assoc _ _ _, dj_un_right.2 ⟨hd, this.1⟩, hx, stars_app hy hb this.2⟩

/-- What is owned may be lent: while the call runs it is known, and behind it it is owned as before. -/
theorem Does.borrow {P : Program} {f : FuncId} {args : List Value} {R : List SL} {h : PH} {A : Value → List SL → Prop}
    (H : ∀ g, stars R g → le g (un h g) → Does P f args [] (un h g) (Ret fun v R' _ => A v R')) : Does P f args R h (Ret fun v R' _ => ∃ R1, R' = R ++ R1 ∧ A v R1) := fun f' w hf hs => by
  obtain ⟨a, g, k, ek, hr, hgf, hkf, hgk, hg, hk, hw⟩ := hs
  have hgh : dj h g := fun b => by
    rcases hgf b with h1 | h1
    · exact .inr h1
    · refine .inl ?_
      cases hb : h b with
      | none => rfl
      | some o => rw [hf b o hb] at h1; cases h1
  have hdj : dj f' g := hgf.symm
  have hle : le (un h g) (un f' g) := fun b o hb => by
    simp only [un] at hb ⊢
    cases hx : h b with
    | some o' => rw [hx] at hb; rw [hf b o' hx]; exact hb
    | none =>
      rw [hx] at hb
      have hb : g b = some o := hb
      rcases hgf b with h1 | h1
      · rw [h1] at hb; cases hb
      · rw [h1]; exact hb
  have hst : St w (un h g) (un f' g) [] (un h g) w :=
    ⟨⟨rfl, rfl, rfl, Nat.le_refl _⟩, none_, none_, (un_none_right _).symm, rfl, dj_none_left _, dj_none_left _, dj_none_left _, fun b o h => by simp [none_] at h, fun b o h => by simp [none_] at h, inW_un hw hg⟩
  refine (H g hr (le_un_right hgh) (un f' g) w hle hst).mono ?_
  rintro e w' ⟨he, R', h', hle', ⟨a', g2, k2, rfl, hr2, hd1, hd2, hd3, hi1, hi2, hi3⟩, hK⟩
  have e1 := dj_un_right.1 hd1
  have e2 := dj_un_right.1 hd2
  have hgg2 : dj g g2 := e1.2.symm
  have hwf : inW f' w' := inW_le (le_un_left _ _) hi3
  have hwg : inW g w' := inW_le (le_un_right hdj) hi3
  refine ⟨he, R ++ R', un h k2, le_un_left _ _, ⟨a', un g g2, k2, rfl, stars_app hr hr2 hgg2, dj_un_left.2 ⟨hgf, e1.1⟩, e2.1, dj_un_left.2 ⟨e2.2.symm, hd3⟩, inW_un hwg hi1, hi2, hwf⟩, ?_⟩
  cases e with
  | returned v => exact ⟨R', rfl, hK⟩
  | panicked c => exact hK.elim
  | outgrown => exact hK.elim

theorem Sl_of_row {α : Type} {enc : α → List Value} {v : Value} {e : TypeId} {sz : Nat} {L : List α} {g h : PH} (hr : rowL enc v e sz L g) (hg : le g h) (he : ∀ x ∈ L, (enc x).length = sz) : Sl enc sz h v L := by
  obtain ⟨hxl, hrow⟩ := hr
  rcases hrow with ⟨rfl, h0', hx⟩ | ⟨b, cap, c, rfl, hm, hc, ht, hb⟩
  · have hL : L = [] := List.eq_nil_of_length_eq_zero h0'
    subst hL
    exact Sl.nil
  · have hb' : h b = some (.cells c.toArray e (0, 0)) := hg b _ (by have : g = one b (.cells c.toArray e (0, 0)) := hb; rw [this]; simp [one])
    refine ⟨he, some ⟨b, 0, none⟩, cap, rfl, hm, by simp, .inr ⟨b, 0, c, e, (0, 0), rfl, hb', ?_⟩⟩
    intro j hj q hq
    have hjl : (j + 1) * sz ≤ L.length * sz := Nat.mul_le_mul_right _ (by omega)
    rw [Nat.add_mul] at hjl
    rw [← flat_get' L he j hj q hq, ← ht, List.getElem?_take, if_pos (by omega)]
    simp
end Go.Par

/- Engine, third text: pointers compared, arrays sliced, slices built and grown where the order is drawn. It speaks of no program. -/
namespace Go.Par
open Go PH

def ptOf (P : Program) (t : TypeId) : Option TypeId :=
  match P.underlying t with
  | some (.pointer e) => some e
  | _ => none
theorem ptOf_under {P : Program} {t e : TypeId} (h : ptOf P t = some e) : P.underlying t = some (.pointer e) := by
  unfold ptOf at h
  split at h
  · rename_i hu; simp at h; subst h; exact hu
  · cases h
section
variable {P : Program} {n : Nat} {ops : Array Oper} {l : List Oper} {o : Oper} {E : Env} {D : List Deferred} {R : List SL} {h : PH} {K : S → Prop} {Q : Exit → S → Prop}
theorem run_eqPn {t e : TypeId} (w : World) (ht : P.underlying t = some (.pointer e)) (a : Option Addr) : (Op.equal t (.pointer a) (.pointer none)).run P w = .ok a.isNone w := by
  show (Op.equalIn (9999 + 1) t (.pointer a) (.pointer none)).run P w = _
  rw [Op.equalIn]
  cases a <;> simp [run_underlying w ht]
theorem X_eqPn_t {t u e : TypeId} {x y : Operand} (ho : o.op = .binOp .eql t x y u) (ht : ptOf P t = some e) (hx : ev E x = some (.pointer none)) (hy : ev E y = some (.pointer none)) : Exec P n o ⟨E, D, R, h⟩ (Is (.bool true) R h) :=
  Exec_is fun ac w ha => by simp [execOp, ho, ha.ev hx, ha.ev hy, eqGuard, binOp, run_eqPn w (ptOf_under ht)]
theorem X_eqPn_f {t u e : TypeId} {x y : Operand} {a : Addr} (ho : o.op = .binOp .eql t x y u) (ht : ptOf P t = some e) (hx : ev E x = some (.pointer (some a))) (hy : ev E y = some (.pointer none)) : Exec P n o ⟨E, D, R, h⟩ (Is (.bool false) R h) :=
  Exec_is fun ac w ha => by simp [execOp, ho, ha.ev hx, ha.ev hy, eqGuard, binOp, run_eqPn w (ptOf_under ht)]
theorem X_nePn_t {t u e : TypeId} {x y : Operand} {a : Addr} (ho : o.op = .binOp .neq t x y u) (ht : ptOf P t = some e) (hx : ev E x = some (.pointer (some a))) (hy : ev E y = some (.pointer none)) : Exec P n o ⟨E, D, R, h⟩ (Is (.bool true) R h) :=
  Exec_is fun ac w ha => by simp [execOp, ho, ha.ev hx, ha.ev hy, eqGuard, binOp, run_eqPn w (ptOf_under ht)]
theorem X_nePn_f {t u e : TypeId} {x y : Operand} (ho : o.op = .binOp .neq t x y u) (ht : ptOf P t = some e) (hx : ev E x = some (.pointer none)) (hy : ev E y = some (.pointer none)) : Exec P n o ⟨E, D, R, h⟩ (Is (.bool false) R h) :=
  Exec_is fun ac w ha => by simp [execOp, ho, ha.ev hx, ha.ev hy, eqGuard, binOp, run_eqPn w (ptOf_under ht)]
/-- A number of something, or nothing. -/
theorem X_eqPnI {t u e : TypeId} {x y : Operand} {a : Option Addr} {c : Bool} (ho : o.op = .binOp .eql t x y u) (ht : ptOf P t = some e) (hx : ev E x = some (.pointer a)) (hy : ev E y = some (.pointer none)) (hc : a.isNone = c) : Exec P n o ⟨E, D, R, h⟩ (Is (.bool c) R h) :=
  Exec_is fun ac w ha => by subst hc; simp [execOp, ho, ha.ev hx, ha.ev hy, eqGuard, binOp, run_eqPn w (ptOf_under ht)]
theorem X_nePnI {t u e : TypeId} {x y : Operand} {a : Option Addr} {c : Bool} (ho : o.op = .binOp .neq t x y u) (ht : ptOf P t = some e) (hx : ev E x = some (.pointer a)) (hy : ev E y = some (.pointer none)) (hc : a.isSome = c) : Exec P n o ⟨E, D, R, h⟩ (Is (.bool c) R h) :=
  Exec_is fun ac w ha => by subst hc; cases a <;> simp [execOp, ho, ha.ev hx, ha.ev hy, eqGuard, binOp, run_eqPn w (ptOf_under ht)]
/-- Two pointers to variables that are known. -/
theorem X_eqPP {t u e : TypeId} {x y : Operand} {a b sz : Nat} {ca cb : List Value} {ta tb : TypeId} (ho : o.op = .binOp .eql t x y u) (ht : ptOf P t = some e) (hs : szOf P e = some sz) (h0 : Nat.beq sz 0 = false)
    (hx : ev E x = some (.pointer (some ⟨a, 0, none⟩))) (hy : ev E y = some (.pointer (some ⟨b, 0, none⟩))) (ha : h a = some (.cells ca.toArray ta (0, 0))) (hb : h b = some (.cells cb.toArray tb (0, 0))) :
    Exec P n o ⟨E, D, R, h⟩ (Is (.bool (decide (a = b))) R h) :=
  Exec_of_run fun κ h0' f ac w hf hac hw => by
    have ha' := hw.h_in hf _ _ ha
    have hb' := hw.h_in hf _ _ hb
    have hsz : sz ≠ 0 := by intro e; subst e; simp at h0
    have hr : (Op.equal t (.pointer (some ⟨a, 0, none⟩)) (.pointer (some ⟨b, 0, none⟩))).run P w = .ok (decide (a = b)) w := by
      show (Op.equalIn (9999 + 1) t (.pointer (some ⟨a, 0, none⟩)) (.pointer (some ⟨b, 0, none⟩))).run P w = _
      rw [Op.equalIn]
      by_cases e : a = b
      · subst e
        simp [run_underlying w (ptOf_under ht), run_sizeOf w hs, run_sameAddr_same]
      · have hne : (⟨a, 0, none⟩ : Addr) ≠ ⟨b, 0, none⟩ := by intro h; exact e (by injection h)
        simp [run_underlying w (ptOf_under ht), run_sizeOf w hs, hsz, run_sameAddr_other w hne ha' hb', e]
    exact ⟨_, R, h, w, .inl (by simp [execOp, ho, hac.ev hx, hac.ev hy, eqGuard, binOp, hr]), le.refl _, hw, rfl, rfl, rfl⟩
/-- An array, as a slice. -/
theorem X_sliceArr {x : Operand} {t e : TypeId} {b off len sz : Nat} (ho : o.op = .slice t x none none none) (ht : arOf P t = some (len, e)) (hs : szOf P e = some sz) (hx : ev E x = some (.pointer (some ⟨b, off, none⟩))) :
    Exec P n o ⟨E, D, R, h⟩ (Is (.slice (some ⟨b, off, none⟩) len len) R h) :=
  Exec_is fun a w ha => by
    simp [execOp, ho, ha.ev hx, Instr.sliceAt, Instr.sliceBounds, Instr.sureAddr, run_underlying w (arOf_under ht), run_sizeOf w hs, add_spot]

/-- An element of an array value, at a place that is told. -/
theorem X_index_valS {x y : Operand} {t e : TypeId} {len sz q : Nat} {k : IntKind} {j : Int} {cs : List Value} {v : Value} (ho : o.op = .index t x y) (ht : arOf P t = some (len, e)) (hs : szOf P e = some sz) (he : isA P e = some false)
    (hx : ev E x = some (.agg cs.toArray)) (hy : ev E y = some (.int k j)) (h0 : 0 ≤ j) (h1 : j < len) (hq : j.toNat * sz = q) (hv : cs[q]? = some v) :
    Exec P n o ⟨E, D, R, h⟩ (Is v R h) := X_index_val ho ht hs he hx hy h0 h1 (by rw [hq]; exact hv)
theorem rd_all {c : List Value} : ∀ {n : Nat}, c.length = n → rd c 0 n = some c := fun {n} hn => rd_of hn (fun j _ => by simp)
/-- All of a variable of several cells. -/
theorem X_loadAll {x : Operand} {t t0 : TypeId} {b i sz : Nat} {c : List Value} (ho : o.op = .load t x) (hx : ev E x = some (.pointer (some ⟨b, 0, none⟩))) (hi : R[i]? = some (blk b c t0))
    (ht : isA P t = some true) (hs : szOf P t = some sz) (hc : c.length = sz) : Exec P n o ⟨E, D, R, h⟩ (Is (.agg c.toArray) R h) := X_loadA ho hx hi ht hs (rd_all hc)
theorem Upd.wkn {R R' : List SL} {h : PH} (H : ∀ g, stars R g → stars R' g) : Upd R h R' h := fun κ h0 f w _ s => by
  obtain ⟨a, g, k, e, hr, rest⟩ := s
  exact ⟨a, g, k, e, H g hr, rest⟩
theorem UpdE.wkn {R : List SL} {h : PH} {A : List SL → Prop} (H : ∀ g, stars R g → ∃ R', A R' ∧ stars R' g) : UpdE R h fun R' h' => h' = h ∧ A R' := fun κ h0 f w _ s => by
  obtain ⟨a, g, k, e, hr, rest⟩ := s
  obtain ⟨R', hA, hr'⟩ := H g hr
  exact ⟨R', h, le.refl _, ⟨rfl, hA⟩, a, g, k, e, hr', rest⟩
theorem Sl_of_blk {α : Type} {enc : α → List Value} {e : TypeId} {sz b : Nat} {c : List Value} {L : List α} {g h : PH} (hb : blk b c e g) (hg : le g h) (hc : c = L.flatMap enc) (he : ∀ x ∈ L, (enc x).length = sz) : Sl enc sz h (.slice (some ⟨b, 0, none⟩) L.length L.length) L := by
  have hb' : h b = some (.cells c.toArray e (0, 0)) := hg b _ (by have : g = one b (.cells c.toArray e (0, 0)) := hb; rw [this]; simp [one])
  refine ⟨he, some ⟨b, 0, none⟩, L.length, rfl, Nat.le_refl _, by simp, .inr ⟨b, 0, c, e, (0, 0), rfl, hb', ?_⟩⟩
  intro j hj q hq
  rw [← flat_get' L he j hj q hq, ← hc]
  simp

/-- append to a slice of one's own: the operation alone. -/
theorem X_appendO {α : Type} {enc : α → List Value} {x y : Operand} {t tx e : TypeId} {sz by_ i : Nat} {v u : Value} {L L' : List α} (ho : o.op = .call ⟨.builtin .append, #[x, y], #[t, tx]⟩) (hx : ev E x = some v) (hy : ev E y = some u)
    (ht : ElemT P t e sz by_) (htx : slOf P tx = some e) (hi : R[i]? = some (rowL enc v e sz L)) (hsrc : Src P R h u sz L'.length (L'.flatMap enc)) (hfl : ∀ x ∈ L', (enc x).all flat = true)
    (hb : (L.length + L'.length) * by_ ≤ 140737488355328) (hm : L.length + L'.length ≤ 9223372036854775807) :
    Exec P n o ⟨E, D, R, h⟩ (Ret fun v' R' h' => R' = R.set i (rowL enc v' e sz (L ++ L')) ∧ h' = h) := by
  refine Exec_of_run fun κ h0 f a w hf ha hw => ?_
  have hall : (L'.flatMap enc).all flat = true := by
    rw [List.all_flatMap]; simp only [List.all_eq_true]; intro x hx; have := hfl x hx; simpa using this
  obtain ⟨v', w', hr, hs⟩ := run_append hf hw ht htx hi hsrc hall hb hm o.type
  refine ⟨v', _, h, w', .inl ?_, le.refl _, hs, ?_⟩
  · simp only [execOp, ho, resolve, invoke, builtin, Sem.run_bind, Sem.run_pure, Result.andThen_ok]
    simp [ha.ev hx, ha.ev hy, hr]
  · refine ⟨?_, rfl⟩
    simp only [rowL, List.length_append, List.flatMap_append]
/-- A slice written out: the operation alone. -/
theorem X_buildSliceO {t e : TypeId} {len sz : Nat} {ps : Array (Nat × Operand)} {vs : List (Nat × Value)} {z : Value} {zs rs cs : List Value} (ho : o.op = .buildSlice t len ps) (hp : evp E ps.toList = some vs) (ht : slOf P t = some e) (hs : szOf P e = some sz)
    (hz : zeOf P e = some z) (hzv : vcO z = some zs) (hzl : Nat.beq zs.length sz = true) (hr : repO len zs = some rs) (hlim : Nat.ble (len * sz) 16777216 = true) (hf : fillO (fun i => some (i * sz, sz)) rs vs = some cs) :
    Exec P n o ⟨E, D, R, h⟩ (Ret fun v' R' h' => ∃ b, v' = .slice (some ⟨b, 0, none⟩) len len ∧ R' = blk b cs e :: R ∧ h' = h) := by
  refine Exec_of_run fun κ h0 f a w _ ha hw => ?_
  refine ⟨_, _, h, _, .inl ?_, le.refl _, hw.new (.cells cs.toArray e (0, 0)), w.heap.size, rfl, rfl, rfl⟩
  have e1 : ps.map (fun (i, x) => (i, a.eval x)) = vs.toArray := map_arr (evp_eq ha hp)
  have hzl' : zs.length = sz := Nat.eq_of_beq_eq_true hzl
  have hlim' : ¬ len * sz > 2 ^ 24 := by have := Nat.le_of_ble_eq_true hlim; omega
  have hzc : z.cells = zs.toArray := by rw [vc_cells, vcO_eq hzv]
  have hF := fill_fillO hf
  simp only [execOp, ho, e1, Instr.buildSlice, Sem.run_bind, run_underlying w (slOf_under ht), Result.andThen_ok, run_sizeOf w hs, hlim', if_false]
  by_cases h0 : len * sz = 0
  · have hr' : (Array.range (len * sz)).map (fun j => (#[] : Array Value)[j % (#[] : Array Value).size]!) = rs.toArray := by
      rw [repO_eq hr]
      have : (List.replicate len zs).flatten = [] := List.eq_nil_of_length_eq_zero (by simp [hzl', h0])
      rw [this, h0]; simp
    simp only [h0, if_true, Sem.run_bind, Sem.run_pure, Result.andThen_ok]
    rw [h0] at hr'
    rw [hr', hF]
    simp [newRow]
  · have hr' : (Array.range (len * sz)).map (fun j => zs.toArray[j % zs.toArray.size]!) = rs.toArray := by
      rw [repO_eq hr]; subst hzl'; exact rep_arr zs len
    simp only [h0, if_false, Sem.run_bind, run_zeroValue w hz, Result.andThen_ok, Sem.run_pure, hzc]
    rw [hr', hF]
    simp [newRow]
end

section
variable {P : Program} {n : Nat} {ops : Array Oper} {l : List Oper} {o : Oper} {E0 : Env} {D : List Deferred} {R : List SL} {h : PH} {K : Done → Prop} {i : Nat} {dn : Done}
/-- What an operation has, known for good. -/
theorem Exec_updE {E : Env} {A B : Value → List SL → PH → Prop} (H : Exec P n o ⟨E, D, R, h⟩ (Ret A)) (u : ∀ v R' h', A v R' h' → UpdE R' h' (B v)) : Exec P n o ⟨E, D, R, h⟩ (Ret B) :=
  fun κ h0 f a w hf ha hw next Q h1 h2 => by
    refine H κ h0 f a w hf ha hw next Q ?_ ?_
    · rintro v R' h' w' hle hs hA
      obtain ⟨R'', h'', hle', hB, hs'⟩ := u v R' h' hA κ h0 f w' hf hs
      exact h1 v R'' h'' w' (hle.trans hle') hs' hB
    · rintro ch R' h' w' _ _ hA; exact hA.elim
/-- A slice written out, that is only read. -/
theorem RG_buildSl {α : Type} {enc : α → List Value} {sz : Nat} (L : List α) (hlen : ∀ x ∈ L, (enc x).length = sz) {t e : TypeId} {len : Nat} {ps : Array (Nat × Operand)} {vs0 : List (Nat × Value)} {z : Value} {zs rs cs : List Value} {d : Tmp}
    (ho : o.op = .buildSlice t len ps) (hp : ∀ vs, evp (av o.after.toList vs dn ++ E0) ps.toList = some vs0) (ht : slOf P t = some e) (hs : szOf P e = some sz)
    (hz : zeOf P e = some z) (hzv : vcO z = some zs) (hzl : Nat.beq zs.length sz = true) (hr : repO len zs = some rs) (hlim : Nat.ble (len * sz) 16777216 = true) (hf : fillO (fun i => some (i * sz, sz)) rs vs0 = some cs)
    (hL : L.length = len) (hc : cs = L.flatMap enc) (hd : o.dst = some d) (hn : Nat.blt d n = true) (hg : ∀ vs, gd ops (av o.after.toList vs dn ++ E0) o = some true)
    (k : RG P n ops E0 D R h K (i + 1) l ((i, some d, .opq (fun v h => Sl enc sz h v L) [] fun _ => []) :: dn)) : RG P n ops E0 D R h K i (o :: l) dn := by
  refine RG_gen (.opq (fun v h => Sl enc sz h v L) [] fun _ => []) (fun _ _ _ hl x => x.mono hl) hd hn hg ?_ k
  intro vs h' _ _
  subst hL; subst hc
  refine (Exec_updE (B := fun v R' h'' => Sl enc sz h'' v L ∧ R' = R) (X_buildSliceO (R := R) ho (hp vs) ht hs hz hzv hzl hr hlim hf) ?_).mono ?_
  · rintro v R' h'' ⟨b, rfl, rfl, rfl⟩
    have hcl : (L.flatMap enc).length = L.length * sz := flat_len L hlen
    refine (UpdE.of (A := fun R' _ => R' = _) (Upd.blkrow (cap := L.length) (m := L.length) (sz := sz) (xs := L.flatMap enc) 0 rfl (Nat.le_refl _) hcl (by rw [← hcl, List.take_length])) rfl).then ?_
    rintro R' h1 - rfl
    refine (UpdE.row (enc := enc) (L := L) 0 rfl hlen).mono ?_
    rintro R'' h2 - ⟨rfl, hsl⟩
    exact ⟨hsl, rfl⟩
  · rintro e R' h'' - hA
    cases e with
    | returned v => exact ⟨v, rfl, hA.1, by rw [hA.2]; exact SubR.refl _⟩
    | panicked ch => exact hA.elim
    | outgrown => exact hA.elim
/-- append to a slice of one's own. -/
theorem RG_append {α : Type} {enc : α → List Value} {sz : Nat} {x y : Operand} {t tx e : TypeId} {by_ : Nat} {v : Value} {u : (Nat → Value) → Value} {L L' : List α} {d : Tmp} (ho : o.op = .call ⟨.builtin .append, #[x, y], #[t, tx]⟩)
    (hx : ∀ vs, ev (av o.after.toList vs dn ++ E0) x = some v) (hy : ∀ vs, ev (av o.after.toList vs dn ++ E0) y = some (u vs))
    (ht : ElemT P t e sz by_) (htx : slOf P tx = some e) (hsrc : ∀ vs h', le h h' → fc o.after.toList vs h' dn → Sl enc sz h' (u vs) L') (hfl : ∀ x ∈ L', (enc x).all flat = true)
    (hb : (L.length + L'.length) * by_ ≤ 140737488355328) (hm : L.length + L'.length ≤ 9223372036854775807) (hd : o.dst = some d) (hn : Nat.blt d n = true) (hg : ∀ vs, gd ops (av o.after.toList vs dn ++ E0) o = some true)
    (k : RG P n ops E0 D R h K (i + 1) l ((i, some d, .opq (fun _ _ => True) [rowL enc v e sz L] fun v' => [rowL enc v' e sz (L ++ L')]) :: dn)) : RG P n ops E0 D R h K i (o :: l) dn := by
  refine RG_gen (.opq (fun _ _ => True) [rowL enc v e sz L] fun v' => [rowL enc v' e sz (L ++ L')]) (fun _ _ _ _ _ => trivial) hd hn hg ?_ k
  intro vs h' hl hf
  refine (X_appendO (enc := enc) (R := [rowL enc v e sz L] ++ R) (i := 0) ho (hx vs) (hy vs) ht htx rfl (Src.sl (hsrc vs h' hl hf)) hfl hb hm).mono ?_
  rintro e R' h'' - hA
  cases e with
  | returned v' => exact ⟨v', rfl, trivial, by rw [hA.1]; exact SubR.refl _⟩
  | panicked ch => exact hA.elim
  | outgrown => exact hA.elim
end
section
variable {P : Program} {n : Nat} {ops : Array Oper} {l : List Oper} {o : Oper} {E : Env} {D : List Deferred} {R : List SL} {h : PH} {K : S → Prop} {Q : Exit → S → Prop}
/-- A slice written out, that is only read. -/
theorem WL_buildSl {α : Type} {enc : α → List Value} {sz : Nat} (L : List α) (hlen : ∀ x ∈ L, (enc x).length = sz) {t e : TypeId} {len : Nat} {ps : Array (Nat × Operand)} {vs0 : List (Nat × Value)} {z : Value} {zs rs cs : List Value} {d : Tmp}
    (ho : o.op = .buildSlice t len ps) (hp : evp E ps.toList = some vs0) (ht : slOf P t = some e) (hs : szOf P e = some sz)
    (hz : zeOf P e = some z) (hzv : vcO z = some zs) (hzl : Nat.beq zs.length sz = true) (hr : repO len zs = some rs) (hlim : Nat.ble (len * sz) 16777216 = true) (hf : fillO (fun i => some (i * sz, sz)) rs vs0 = some cs)
    (hL : L.length = len) (hc : cs = L.flatMap enc) (hd : o.dst = some d) (hg : gd ops E o = some true) (hn : Nat.blt d n = true)
    (k : ∀ v h', le h h' → Sl enc sz h' v L → WL P n ops l ⟨(d, v) :: E, D, R, h'⟩ K Q) : WL P n ops (o :: l) ⟨E, D, R, h⟩ K Q := by
  subst hL; subst hc
  refine WL_buildSlice ho hp ht hs hz hzv hzl hr hlim hf hd hg hn ?_
  intro b
  have hcl : (L.flatMap enc).length = L.length * sz := flat_len L hlen
  refine WL_upd (Upd.blkrow (cap := L.length) (m := L.length) (sz := sz) (xs := L.flatMap enc) 0 rfl (Nat.le_refl _) hcl (by rw [← hcl, List.take_length])) ?_
  refine WL_updE (UpdE.row (enc := enc) (L := L) 0 rfl hlen) ?_
  rintro R'' h2 hl2 ⟨rfl, hsl⟩
  exact k _ h2 hl2 hsl
end
section
variable {P : Program} {n : Nat} {ops : Array Oper} {l : List Oper} {E : Env} {D : List Deferred} {R R0 : List SL} {h : PH} {K : S → Prop} {Q : Exit → S → Prop}
/-- The end of a region some of whose operations took what was owned. -/
theorem RG_endC {dn : Done} {E0 : Env} {E' : (Nat → Value) → Env} {R' : (Nat → Value) → List SL} {F : (Nat → Value) → PH → Prop} (hC : R.Perm (allC dn ++ R0)) (hE : ∀ vs, endE vs dn ++ E0 = E' vs) (hR : ∀ vs, endR vs dn ++ (R0 ++ []) = R' vs) (hF : ∀ vs h', endF vs h' dn → F vs h')
    (k : ∀ vs h', le h h' → F vs h' → WL P n ops l ⟨E' vs, D, R' vs, h'⟩ K Q) :
    R.Perm (allC dn ++ (R0 ++ [])) ∧ ((∀ vs h', le h h' → endF vs h' dn → WL P n ops l ⟨endE vs dn ++ E0, D, endR vs dn ++ (R0 ++ []), h'⟩ K Q) ∨ (∀ vs, WL P n ops l ⟨endE vs dn ++ E0, D, endR vs dn ++ (R0 ++ []), h⟩ K Q)) :=
  ⟨by rw [List.append_nil]; exact hC, .inl fun vs h' hle hf => by rw [hE, hR]; exact k vs h' hle (hF vs h' hf)⟩
end
end Go.Par

/- Engine, fourth text: cuts. It speaks of no program. -/
namespace Go.Par
open Go PH
/-- What follows is walked once, from whatever the code ahead of it may leave. -/
theorem W_cutT {P : Program} {n : Nat} {X : Type} {x y : Code} {s : S} {Q Q' : Exit → S → Prop} (L : X → S) (p : X → Prop) (h : W P n x s (Then (fun s' => ∃ i, Sub s' (L i) ∧ p i) Q)) (k : ∀ i, p i → W P n y (L i) Q') : W P n x s (Then (fun s' => W P n y s' Q') Q) :=
  W_mono h fun e s' h' => by
    cases e with
    | normal => obtain ⟨i, hs, hp⟩ := h'; exact W_weaken hs (k i hp)
    | _ => exact h'
section
variable {P : Program} {n : Nat} {o : Oper} {E : Env} {D : List Deferred} {R : List SL} {h : PH}
/-- An element of an array that is held as a row. -/
theorem X_index_arrspot {x y : Operand} {t e : TypeId} {b len sz j : Nat} {k : IntKind} (ho : o.op = .indexAddr t x y) (ht : arOf P t = some (len, e)) (hs : szOf P e = some sz)
    (hx : ev E x = some (.pointer (some ⟨b, 0, none⟩))) (hy : ev E y = some (.int k (j : Int))) (h1 : j < len) :
    Exec P n o ⟨E, D, R, h⟩ (Is (.pointer (some ⟨b, spot j sz 0, none⟩)) R h) := X_index_arr ho ht hs hx hy (by omega) (by omega) (by rw [spot_eq]; simp)
end
end Go.Par

/- Engine, fifth text: scopes and labels, slices of slices, clearing. It speaks of no program. -/
namespace Go.Par
open Go PH
section
variable {F : Fence} {n : Nat} {P : Program} {a : Act} {w : World} {Q : Exit → Act → World → Prop} {b : Frame} {k : List Item} {cs : List Frame}
theorem stepR_scope {c : Code} : step P (lone (b.atR a (.code (.scope c) :: k)) cs w) = .next (lone (b.atR a (.code c :: .inScope c :: k)) cs w) :=
  step_lone_go (by simp [stepG, stepG.exec, Frame.atR])
theorem stepR_inScope {c : Code} : step P (lone (b.atR a (.inScope c :: k)) cs w) = .next (lone (b.atR a k) cs w) :=
  step_lone_go (by simp [stepG, stepG.exec, Frame.atR])
theorem scope_exit {id : Nat} {c : Code} : exitTo id (.inScope c :: k) = exitTo id k := by simp [exitTo]
theorem wpIn_scope_straight {c : Code} (h : c.wpIn F n P (Exit.noGoto Q) a w) : (Code.scope c).wpIn F n P Q a w := by
  intro b k cs hro hb hr
  have h0 : (lone (b.atR a (.code (.scope c) :: k)) cs w).fenced P F := fenced_calm hb hr rfl
  obtain ⟨e, a₁, w₁, hq, harr⟩ := h b (.inScope c :: k) cs hro hb hr
  cases e with
  | normal => exact ⟨.normal, a₁, w₁, hq, .head h0 stepR_scope (StepsIn.trans harr (.one (fenced_calm hb hr rfl) stepR_inScope))⟩
  | exit id => exact ⟨.exit id, a₁, w₁, hq, fun k' hk => .head h0 stepR_scope (harr.1 k' (by rw [scope_exit]; exact hk)), fun hr' hk => let ⟨k₁, h1, h2⟩ := harr.2 hr' (by rw [scope_exit]; exact hk); ⟨k₁, h1, .head h0 stepR_scope h2⟩⟩
  | goto l => exact hq.elim
  | ret => exact ⟨_, a₁, w₁, hq, .of_steps (.one h0 stepR_scope) harr⟩
  | panic ch => exact ⟨_, a₁, w₁, hq, .of_steps (.one h0 stepR_scope) harr⟩
  | outgrown => exact ⟨_, a₁, w₁, hq, .of_steps (.one h0 stepR_scope) harr⟩
def exJ (l : Nat) (J : Act → World → Prop) (Q : Exit → Act → World → Prop) : Exit → Act → World → Prop
  | .goto l', a, w => l' = l ∧ J a w
  | e, a, w => Q e a w
theorem wpIn_scope_to {c rest : Code} (l : Nat) (hf : findLabel c l = some rest) (h : c.wpIn F n P (exJ l (fun a w => rest.wpIn F n P (Exit.noGoto Q) a w) Q) a w) : (Code.scope c).wpIn F n P Q a w := by
  intro b k cs hro hb hr
  have h0 : (lone (b.atR a (.code (.scope c) :: k)) cs w).fenced P F := fenced_calm hb hr rfl
  have hg : gotoIn l (.inScope c :: k) = some (.code rest :: .inScope c :: k) := by simp [gotoIn, hf]
  obtain ⟨e, a₁, w₁, hq, harr⟩ := h b (.inScope c :: k) cs hro hb hr
  cases e with
  | normal => exact ⟨.normal, a₁, w₁, hq, .head h0 stepR_scope (StepsIn.trans harr (.one (fenced_calm hb hr rfl) stepR_inScope))⟩
  | exit id => exact ⟨.exit id, a₁, w₁, hq, fun k' hk => .head h0 stepR_scope (harr.1 k' (by rw [scope_exit]; exact hk)), fun hr' hk => let ⟨k₁, h1, h2⟩ := harr.2 hr' (by rw [scope_exit]; exact hk); ⟨k₁, h1, .head h0 stepR_scope h2⟩⟩
  | goto l' =>
    obtain ⟨rfl, hJ⟩ := hq
    obtain ⟨e2, a2, w2, hq2, harr2⟩ := hJ b (.inScope c :: k) cs hro hb hr
    have st : StepsIn (Machine.fenced P F) P (lone (b.atR a (.code (.scope c) :: k)) cs w) (lone (b.atR a₁ (.code rest :: .inScope c :: k)) cs w₁) := .head h0 stepR_scope (harr.1 _ hg)
    cases e2 with
    | normal => exact ⟨.normal, a2, w2, hq2, StepsIn.trans st (StepsIn.trans harr2 (.one (fenced_calm hb hr rfl) stepR_inScope))⟩
    | exit id => exact ⟨.exit id, a2, w2, hq2, fun k' hk => StepsIn.trans st (harr2.1 k' (by rw [scope_exit]; exact hk)), fun hr' hk => let ⟨k₁, h1, h2⟩ := harr2.2 hr' (by rw [scope_exit]; exact hk); ⟨k₁, h1, StepsIn.trans st h2⟩⟩
    | goto l => exact hq2.elim
    | ret => exact ⟨_, a2, w2, hq2, .of_steps st harr2⟩
    | panic ch => exact ⟨_, a2, w2, hq2, .of_steps st harr2⟩
    | outgrown => exact ⟨_, a2, w2, hq2, .of_steps st harr2⟩
  | ret => exact ⟨_, a₁, w₁, hq, .of_steps (.one h0 stepR_scope) harr⟩
  | panic ch => exact ⟨_, a₁, w₁, hq, .of_steps (.one h0 stepR_scope) harr⟩
  | outgrown => exact ⟨_, a₁, w₁, hq, .of_steps (.one h0 stepR_scope) harr⟩
end
def toG (l : Nat) (K : S → Prop) (Q : Exit → S → Prop) : Exit → S → Prop
  | .goto l', s => l' = l ∧ K s
  | e, s => Q e s
theorem toG_normal {l : Nat} {K : S → Prop} {Q : Exit → S → Prop} {s : S} (h : Q .normal s) : toG l K Q .normal s := h
theorem toG_ret {l : Nat} {K : S → Prop} {Q : Exit → S → Prop} {s : S} (h : Q .ret s) : toG l K Q .ret s := h
theorem toG_exit {l : Nat} {K : S → Prop} {Q : Exit → S → Prop} {s : S} {i : Nat} (h : Q (.exit i) s) : toG l K Q (.exit i) s := h
theorem toG_here {l : Nat} {K : S → Prop} {Q : Exit → S → Prop} {s : S} (h : K s) : toG l K Q (.goto l) s := ⟨rfl, h⟩
def noG (Q : Exit → S → Prop) : Exit → S → Prop
  | .goto _, _ => False
  | e, s => Q e s
theorem noG_normal {Q : Exit → S → Prop} {s : S} (h : Q .normal s) : noG Q .normal s := h
theorem noG_ret {Q : Exit → S → Prop} {s : S} (h : Q .ret s) : noG Q .ret s := h
theorem noG_exit {Q : Exit → S → Prop} {s : S} {i : Nat} (h : Q (.exit i) s) : noG Q (.exit i) s := h
section
variable {P : Program} {n : Nat} {ops : Array Oper} {l : List Oper} {o : Oper} {E : Env} {D : List Deferred} {R : List SL} {h : PH} {s : S} {K : S → Prop} {Q : Exit → S → Prop}
theorem W_scope {c : Code} (h : W P n c s (noG Q)) : W P n (.scope c) s Q := fun κ h0 f a w hf ha hw => by
  refine wpIn_scope_straight (wpIn_mono (h κ h0 f a w hf ha hw) ?_)
  rintro e a' w' ⟨he, s', h1, h2, h3⟩
  cases e with
  | goto i => exact h3.elim
  | normal => exact ⟨by simp, s', h1, h2, h3⟩
  | exit i => exact ⟨by simp, s', h1, h2, h3⟩
  | ret => exact ⟨by simp, s', h1, h2, h3⟩
  | panic c => exact ⟨by simp, s', h1, h2, h3⟩
  | outgrown => exact absurd rfl he
/-- A scope with one label, to which the way leads forward. -/
theorem W_scopeTo {c rest : Code} (l : Nat) (hf : findLabel c l = some rest) (h : W P n c s (toG l (fun s' => W P n rest s' (noG Q)) Q)) : W P n (.scope c) s Q := fun κ h0 f a w hfl ha hw => by
  refine wpIn_scope_to l hf (wpIn_mono (h κ h0 f a w hfl ha hw) ?_)
  rintro e a' w' ⟨he, s', h1, h2, h3⟩
  cases e with
  | goto i =>
    obtain ⟨rfl, h4⟩ := h3
    refine ⟨rfl, ?_⟩
    have := h4 κ h0 f a' w' hfl h1 h2.1
    have hfe : fen s'.D = fen s.D := by simp only [fen, h2.2]
    rw [hfe] at this
    refine wpIn_mono this ?_
    rintro e2 a2 w2 ⟨he2, s2, k1, ⟨k2, k2'⟩, k3⟩
    have hro := k2'.trans h2.2
    cases e2 with
    | goto i => exact k3.elim
    | normal => exact ⟨by simp, s2, k1, ⟨k2, hro⟩, k3⟩
    | exit i => exact ⟨by simp, s2, k1, ⟨k2, hro⟩, k3⟩
    | ret => exact ⟨by simp, s2, k1, ⟨k2, hro⟩, k3⟩
    | panic c => exact ⟨by simp, s2, k1, ⟨k2, hro⟩, k3⟩
    | outgrown => exact absurd rfl he2
  | normal => exact ⟨by simp, s', h1, h2, h3⟩
  | exit i => exact ⟨by simp, s', h1, h2, h3⟩
  | ret => exact ⟨by simp, s', h1, h2, h3⟩
  | panic c => exact ⟨by simp, s', h1, h2, h3⟩
  | outgrown => exact absurd rfl he
/-- The rest of a slice, from a place on. -/
theorem X_sliceLo {x y : Operand} {t e : TypeId} {b len cap sz j : Nat} {k : IntKind} (ho : o.op = .slice t x (some y) none none) (ht : slOf P t = some e) (hs : szOf P e = some sz) (hx : ev E x = some (.slice (some ⟨b, 0, none⟩) len cap)) (hy : ev E y = some (.int k (j : Int)))
    (h1 : j ≤ len) (h2 : j ≠ cap) : Exec P n o ⟨E, D, R, h⟩ (Is (.slice (some ⟨b, j * sz, none⟩) (len - j) (cap - j)) R h) :=
  Exec_is fun a w ha => by
    have h2' : ¬ cap = j := fun e => h2 e.symm
    simp [execOp, ho, ha.ev hx, ha.ev hy, Instr.sliceAt, Instr.slice, Instr.sliceBounds, Instr.sliceBound, asIntOf, run_underlying w (slOf_under ht), run_sizeOf w hs, add_spot, h1, h2']
/-- The beginning of a slice. -/
theorem X_sliceHi {x y : Operand} {t e : TypeId} {b len cap sz j : Nat} {k : IntKind} (ho : o.op = .slice t x none (some y) none) (ht : slOf P t = some e) (hs : szOf P e = some sz) (hx : ev E x = some (.slice (some ⟨b, 0, none⟩) len cap)) (hy : ev E y = some (.int k (j : Int)))
    (h1 : j ≤ cap) : Exec P n o ⟨E, D, R, h⟩ (Is (.slice (some ⟨b, 0, none⟩) j cap) R h) :=
  Exec_is fun a w ha => by
    simp [execOp, ho, ha.ev hx, ha.ev hy, Instr.sliceAt, Instr.slice, Instr.sliceBounds, Instr.sliceBound, asIntOf, run_underlying w (slOf_under ht), run_sizeOf w hs, add_spot, h1]
theorem zeroCells1 (z : Value) (m : Nat) : (Builtin.zeroCells #[z] m).toList = List.replicate m z := by
  apply List.ext_getElem?
  intro j
  simp only [Builtin.zeroCells, List.size_toArray, List.length_cons, List.length_nil, Nat.zero_add, Nat.mul_one, Nat.mod_one, Array.toList_map, Array.toList_range, List.getElem?_map, List.getElem?_replicate]
  by_cases hj : j < m
  · simp [hj]
  · simp [hj]
/-- Clearing a part of a block of one's own. -/
theorem WL_clear {x : Operand} {t t0 e : TypeId} {b off m cap i : Nat} {z : Value} {c : List Value} (ho : o.op = .call ⟨.builtin .clear, #[x], #[t]⟩) (ht : slOf P t = some e) (hz : zeOf P e = some z) (hzf : flat z = true) (hzc : z.cells = #[z])
    (hx : ev E x = some (.slice (some ⟨b, off, none⟩) m cap)) (hm : 0 < m) (hi : R[i]? = some (blk b c t0)) (hc : off + m ≤ c.length) (hd : o.dst = none) (hg : gd ops E o = some true)
    (k : WL P n ops l ⟨E, D, R.set i (blk b (wr c off (List.replicate m z)) t0), h⟩ K Q) : WL P n ops (o :: l) ⟨E, D, R, h⟩ K Q := by
  refine WL_do (A := fun _ R' h' => R' = R.set i (blk b (wr c off (List.replicate m z)) t0) ∧ h' = h) ?_ hd hg fun _ _ _ _ ⟨e1, e2⟩ => by subst e1; subst e2; exact k
  refine Exec_of_run fun κ h0 f a w _ ha hw => ?_
  have hb := hw.obj_at hi
  have hst := run_storeCells_at (P := P) (off := off) (i := 0) (vs := List.replicate m z) hb (by simp; omega) (by simp [hzf])
  refine ⟨.tuple #[], _, h, _, .inl ?_, le.refl _, hw.turnRow hi, rfl, rfl⟩
  obtain ⟨m, rfl⟩ : ∃ m', m = m' + 1 := ⟨m - 1, by omega⟩
  simp only [Nat.add_zero] at hst
  simp only [execOp, ho, resolve, invoke, builtin, Sem.run_bind, Sem.run_pure, Result.andThen_ok]
  simp [ha.ev hx, Builtin.clear_, run_underlying w (slOf_under ht), run_zeroValue w hz, hzc, zeroCells1, hst]
end
attribute [irreducible] noG toG
end Go.Par

/- Engine, sixth text: what is owned is known for good. It speaks of no program. -/
namespace Go.Par
open Go PH
theorem UpdE.lay {R : List SL} {h : PH} {r : SL} (i : Nat) (hi : R[i]? = some r) : UpdE R h fun R' h' => R' = R.eraseIdx i ∧ ∃ g, r g ∧ le g h' := fun κ h0 f w hf s => by
  obtain ⟨a, g, k, rfl, hr, hgf, hkf, hgk, hg, hk, hw⟩ := s
  obtain ⟨x, y, rfl, hd, hx, _, her⟩ := stars_get hi hr
  have hgf' := dj_un_left.1 hgf
  have hgk' := dj_un_left.1 hgk
  have hx0 : dj x h0 := fun b => by
    rcases hgf'.1 b with h1 | h1
    · exact .inl h1
    · refine .inr ?_
      cases hb : h0 b with
      | none => rfl
      | some o => rw [hf b o hb] at h1; cases h1
  refine ⟨R.eraseIdx i, un (un h0 k) x, le_un_left _ _, ⟨rfl, x, hx, le_un_right ?_⟩, a, y, un k x, un_assoc _ _ _, her, hgf'.2, dj_un_left.2 ⟨hkf, hgf'.1⟩, dj_un_right.2 ⟨hgk'.2, hd.symm⟩, inW_le (le_un_right hd) hg, inW_un hk (inW_le (le_un_left _ _) hg), hw⟩
  exact dj_un_left.2 ⟨hx0.symm, hgk'.1.symm⟩
end Go.Par

/- Engine, seventh text: what hangs on what is known in a drawn region. It speaks of no program. -/
namespace Go.Par
open Go PH
section
variable {P : Program} {n : Nat} {ops : Array Oper} {o : Oper} {E0 : Env} {D : List Deferred} {R : List SL} {h : PH} {K : Done → Prop} {i : Nat} {l : List Oper} {dn : Done}
/-- A value that follows from what is known of values before. -/
theorem RG_valO {d : Tmp} (v : Value) (hd : o.dst = some d) (hn : Nat.blt d n = true) (hg : ∀ vs, gd ops (av o.after.toList vs dn ++ E0) o = some true)
    (hx : ∀ vs h', le h h' → fc o.after.toList vs h' dn → Exec P n o ⟨av o.after.toList vs dn ++ E0, D, R, h'⟩ (Is v R h'))
    (k : RG P n ops E0 D R h K (i + 1) l ((i, some d, .val v) :: dn)) : RG P n ops E0 D R h K i (o :: l) dn := by
  refine RG_gen (.val v) trivial hd hn hg ?_ k
  intro vs h' hl hf
  refine (hx vs h' hl hf).mono ?_
  rintro e R' h'' _ ⟨rfl, rfl, rfl⟩
  exact ⟨v, rfl, rfl, SubR.refl _⟩
end
end Go.Par

/- Engine, eighth text: strings. It speaks of no program. -/
namespace Go.Par
open Go PH
def strGe (a b : ByteArray) : Bool := !(Op.bytesLess a.toList b.toList)
section
variable {P : Program} {n : Nat} {o : Oper} {E : Env} {D : List Deferred} {R : List SL} {h : PH}
theorem X_geS {t u : TypeId} {x y : Operand} {a b : ByteArray} (ho : o.op = .binOp .geq t x y u) (hx : ev E x = some (.string a)) (hy : ev E y = some (.string b)) : Exec P n o ⟨E, D, R, h⟩ (Is (.bool (strGe a b)) R h) :=
  Exec_is fun ac w ha => by
    simp [execOp, ho, ha.ev hx, ha.ev hy, eqGuard, binOp, Op.stringOp, strGe]
theorem X_geS_c {t u : TypeId} {x y : Operand} {a b : ByteArray} {c : Bool} (ho : o.op = .binOp .geq t x y u) (hx : ev E x = some (.string a)) (hy : ev E y = some (.string b)) (hc : strGe a b = c) : Exec P n o ⟨E, D, R, h⟩ (Is (.bool c) R h) := by
  subst hc; exact X_geS ho hx hy
theorem X_eqS_c {t u : TypeId} {x y : Operand} {a b : ByteArray} {c : Bool} (ho : o.op = .binOp .eql t x y u) (hx : ev E x = some (.string a)) (hy : ev E y = some (.string b)) (hc : (a == b) = c) : Exec P n o ⟨E, D, R, h⟩ (Is (.bool c) R h) := by
  subst hc; exact X_eqS ho hx hy
/-- A part of an array that is a row of cells itself. -/
theorem X_index_valA {x y : Operand} {t e : TypeId} {len sz off : Nat} {k : IntKind} {j : Int} {cs vs : List Value} (ho : o.op = .index t x y) (ht : arOf P t = some (len, e)) (hs : szOf P e = some sz) (he : isA P e = some true)
    (hx : ev E x = some (.agg cs.toArray)) (hy : ev E y = some (.int k j)) (h0 : 0 ≤ j) (h1 : j < len) (hoff : j.toNat * sz = off) (hv : (cs.drop off).take sz = vs) :
    Exec P n o ⟨E, D, R, h⟩ (Is (.agg vs.toArray) R h) :=
  Exec_is fun a w ha => by
    subst hoff; subst hv
    simp [execOp, ho, ha.ev hx, ha.ev hy, Instr.index, asIntOf, run_underlying w (arOf_under ht), run_sizeOf w hs, h0, h1, part, run_isAgg w he]
/-- The library's own search for a byte, which has no body. -/
theorem X_indexByteStr {fo : Operand} {xs : Array Operand} {tys : Array TypeId} {f : FuncId} {fn : Func} {s : ByteArray} {c : Int} (ho : o.op = .call ⟨.value fo, xs, tys⟩) (hfo : ev E fo = some (.func (.func f) #[] #[]))
    (hxs : evs E xs.toList = some [.string s, .int .u8 c]) (hfn : P.funcs[f]? = some fn) (hnm : (fn.name == "runtime.NumGoroutine") = false) (hb : fn.body.isNone = true) (hn : Extern.findNext fn = none)
    (he : Extern.find fn = some Extern.BytealgIndexByte.indexByte) : Exec P n o ⟨E, D, R, h⟩ (Is (.int .i64 (Lib.indexByte s.data.toList c.toNat.toUInt8)) R h) :=
  Exec_is fun a w ha => by
    have e1 : xs.map a.eval = #[.string s, .int .u8 c] := map_arr (ha.evs hxs)
    simp only [execOp, ho, resolve, Deferred.ofValue, ha.ev hfo, e1, Sem.run_bind, Sem.run_pure, Result.andThen_ok, invoke, Array.append_empty, Array.empty_append]
    rw [run_callFunc_extern hfn hnm hb hn he, Lib.run_indexByteString]; rfl
end
theorem indexByte_mem {c : UInt8} : ∀ {l : List UInt8}, 0 ≤ Lib.indexByte l c ↔ c ∈ l
  | [] => by simp [Lib.indexByte]
  | b :: l => by
    have ih := indexByte_mem (c := c) (l := l)
    have hge := Lib.indexByte_ge l c
    unfold Lib.indexByte
    by_cases hb : b = c
    · subst hb; simp
    · have hb' : (b == c) = false := by simpa using hb
      have hb2 : ¬ c = b := fun e => hb e.symm
      simp only [hb', Bool.false_eq_true, if_false, List.mem_cons, hb2, false_or, ← ih]
      by_cases h1 : Lib.indexByte l c = -1
      · rw [h1]; decide
      · have : (Lib.indexByte l c == -1) = false := by simpa using h1
        rw [this]; simp; omega
theorem beqB (a : ByteArray) : (a == a) = true := by rw [beq_toListBytes]; simp
theorem nat_and7 (a : Nat) : a &&& 7 = a % 8 := by
  have := Nat.and_two_pow_sub_one_eq_mod a 3
  simpa using this
theorem u16_and7 (x : Int) (h0 : 0 ≤ x) (h1 : x < 65536) : bits .and .u16 x 7 = x % 8 := by
  rw [u16_and x 7 h0 h1 (by omega) (by omega)]
  have e : (7 : Int).toNat = 7 := rfl
  rw [e, nat_and7]; omega
theorem u16_andNot_ok {a b : Int} (h1 : 0 ≤ a) (h2 : a < 65536) (h3 : 0 ≤ b) (h4 : b < 65536) : 0 ≤ bits .andNot .u16 a b ∧ bits .andNot .u16 a b ≤ 65535 := by
  rw [u16_andNot a b h1 h2 h3 h4]
  have : a.toNat &&& (65535 - b.toNat) ≤ a.toNat := Nat.and_le_left
  omega
theorem byte_back (c : UInt8) : ((c.toNat : Int)).toNat.toUInt8 = c := by simp
theorem byte_zero {c : UInt8} : (c.toNat : Int) = 0 ↔ c = 0 := by
  constructor
  · intro h
    have : c.toNat = 0 := by omega
    exact UInt8.toNat_inj.1 (by simpa using this)
  · rintro rfl; rfl
end Go.Par

/- Engine, ninth text: parts of rows cleared. It speaks of no program. -/
namespace Go.Par
open Go PH
section
variable {P : Program} {n : Nat} {ops : Array Oper} {l : List Oper} {o : Oper} {E : Env} {D : List Deferred} {R : List SL} {h : PH} {K : S → Prop} {Q : Exit → S → Prop}
theorem zeroCells_len (zs : List Value) (m : Nat) : (Builtin.zeroCells zs.toArray m).toList.length = m * zs.length := by simp [Builtin.zeroCells]
theorem zeroCells_flat {zs : List Value} (hz : zs.all flat = true) (h0 : 0 < zs.length) (m : Nat) : (Builtin.zeroCells zs.toArray m).toList.all flat = true := by
  rw [List.all_eq_true]
  intro x hx
  simp only [Builtin.zeroCells, Array.toList_map, List.mem_map] at hx
  obtain ⟨i, _, rfl⟩ := hx
  have hi : i % zs.toArray.size < zs.length := by simpa using Nat.mod_lt _ h0
  rw [getElem!_pos zs.toArray _ (by simpa using hi)]
  exact List.all_eq_true.1 hz _ (by simp)
theorem WL_clearA {x : Operand} {t t0 e : TypeId} {b off m cap i : Nat} {z : Value} {c zs : List Value} (ho : o.op = .call ⟨.builtin .clear, #[x], #[t]⟩) (ht : slOf P t = some e) (hz : zeOf P e = some z) (hzc : vcO z = some zs) (hzf : zs.all flat = true) (hz0 : Nat.blt 0 zs.length = true)
    (hx : ev E x = some (.slice (some ⟨b, off, none⟩) m cap)) (hm : 0 < m) (hi : R[i]? = some (blk b c t0)) (hc : off + m * zs.length ≤ c.length) (hd : o.dst = none) (hg : gd ops E o = some true)
    (k : ∀ zz : List Value, zz.length = m * zs.length → WL P n ops l ⟨E, D, R.set i (blk b (wr c off zz) t0), h⟩ K Q) : WL P n ops (o :: l) ⟨E, D, R, h⟩ K Q := by
  have hz0 : 0 < zs.length := by simpa [Nat.blt_eq] using hz0
  have hzz := zeroCells_len zs m
  have hzzf := zeroCells_flat hzf hz0 m
  have hcz : z.cells = zs.toArray := by rw [vc_cells, vcO_eq hzc]
  refine WL_do (A := fun _ R' h' => R' = R.set i (blk b (wr c off (Builtin.zeroCells zs.toArray m).toList) t0) ∧ h' = h) ?_ hd hg fun _ _ _ _ ⟨e1, e2⟩ => by subst e1; subst e2; exact k _ hzz
  refine Exec_of_run fun κ h0 f a w _ ha hw => ?_
  have hb := hw.obj_at hi
  have hst := run_storeCells_at (P := P) (off := off) (i := 0) (vs := (Builtin.zeroCells zs.toArray m).toList) hb (by rw [hzz]; omega) hzzf
  refine ⟨.tuple #[], _, h, _, .inl ?_, le.refl _, hw.turnRow hi, rfl, rfl⟩
  obtain ⟨m, rfl⟩ : ∃ m', m = m' + 1 := ⟨m - 1, by omega⟩
  simp only [Nat.add_zero] at hst
  simp only [execOp, ho, resolve, invoke, builtin, Sem.run_bind, Sem.run_pure, Result.andThen_ok]
  simp [ha.ev hx, Builtin.clear_, run_underlying w (slOf_under ht), run_zeroValue w hz, hcz, hst]
end
end Go.Par

/- Engine, tenth text: parts of slices that are only read; append to nil in a drawn region. It speaks of no program. -/
namespace Go.Par
open Go PH
section
variable {P : Program} {n : Nat} {o : Oper} {E : Env} {D : List Deferred} {R : List SL} {h : PH}
/-- The rest of a slice, from a place on. -/
theorem X_sliceLoG {x y : Operand} {t e : TypeId} {a : Option Addr} {len cap sz j : Nat} {k : IntKind} (ho : o.op = .slice t x (some y) none none) (ht : slOf P t = some e) (hs : szOf P e = some sz) (hx : ev E x = some (.slice a len cap)) (hy : ev E y = some (.int k (j : Int)))
    (h1 : j ≤ len) : Exec P n o ⟨E, D, R, h⟩ (Is (.slice (if cap = j then a else a.map (·.add (j * sz))) (len - j) (cap - j)) R h) :=
  Exec_is fun ac w ha => by
    simp [execOp, ho, ha.ev hx, ha.ev hy, Instr.sliceAt, Instr.slice, Instr.sliceBounds, Instr.sliceBound, asIntOf, run_underlying w (slOf_under ht), run_sizeOf w hs, h1]
/-- The beginning of a slice. -/
theorem X_sliceHiG {x y : Operand} {t e : TypeId} {a : Option Addr} {len cap sz j : Nat} {k : IntKind} (ho : o.op = .slice t x none (some y) none) (ht : slOf P t = some e) (hs : szOf P e = some sz) (hx : ev E x = some (.slice a len cap)) (hy : ev E y = some (.int k (j : Int)))
    (h1 : j ≤ cap) : Exec P n o ⟨E, D, R, h⟩ (Is (.slice (if cap = 0 then a else a.map (·.add (0 * sz))) j cap) R h) :=
  Exec_is fun ac w ha => by
    simp [execOp, ho, ha.ev hx, ha.ev hy, Instr.sliceAt, Instr.slice, Instr.sliceBounds, Instr.sliceBound, asIntOf, run_underlying w (slOf_under ht), run_sizeOf w hs, h1]
end
section
variable {α : Type} {enc : α → List Value} {sz : Nat} {h : PH} {a : Option Addr} {cap k : Nat} {L : List α}
theorem Sl.capLe (hv : Sl enc sz h (.slice a L.length cap) L) : L.length ≤ cap := by
  obtain ⟨_, a', cap', e, hc, _⟩ := hv
  injection e with e1 e2 e3
  omega
theorem Sl.from (hv : Sl enc sz h (.slice a L.length cap) L) (hk : k ≤ L.length) : Sl enc sz h (.slice (if cap = k then a else a.map (·.add (k * sz))) (L.length - k) (cap - k)) (L.drop k) := by
  obtain ⟨v', h1, a1, a2, cap1, e1, _, e2, e3⟩ := hv.cut (lo := k) (hi := L.length) hk (Nat.le_refl _)
  injection e1 with e1 _ e4
  subst e1; subst e4; subst e3; subst e2
  rw [List.take_length] at h1
  exact h1
theorem Sl.upto (hv : Sl enc sz h (.slice a L.length cap) L) (hk : k ≤ L.length) : Sl enc sz h (.slice (if cap = 0 then a else a.map (·.add (0 * sz))) k cap) (L.take k) := by
  obtain ⟨v', h1, a1, a2, cap1, e1, _, e2, e3⟩ := hv.cut (lo := 0) (hi := k) (Nat.zero_le _) hk
  injection e1 with e1 _ e4
  subst e1; subst e4; subst e3; subst e2
  exact h1
end
section
variable {P : Program} {n : Nat} {ops : Array Oper} {l : List Oper} {o : Oper} {E0 : Env} {D : List Deferred} {R : List SL} {h : PH} {K : Done → Prop} {i : Nat} {dn : Done}
/-- What an operation does, after a turn of what is owned. -/
theorem Exec_upd {E : Env} {R1 : List SL} {h1 : PH} {A : Post} (u : Upd R h R1 h1) (hl : le h h1) (H : Exec P n o ⟨E, D, R1, h1⟩ A) : Exec P n o ⟨E, D, R, h⟩ A := fun κ h0 f a w hf ha hw next Q k1 k2 =>
  H κ h0 f a w hf ha (u κ h0 f w hf hw) next Q (fun v R' h' w' hle hs hA => k1 v R' h' w' (hl.trans hle) hs hA) (fun ch R' h' w' hle hs hA => k2 ch R' h' w' (hl.trans hle) hs hA)
/-- append to nil. -/
theorem RG_append_nil {α : Type} {enc : α → List Value} {sz : Nat} {x y : Operand} {t tx e : TypeId} {by_ : Nat} {u : (Nat → Value) → Value} {L' : List α} {d : Tmp} (ho : o.op = .call ⟨.builtin .append, #[x, y], #[t, tx]⟩)
    (hx : ∀ vs, ev (av o.after.toList vs dn ++ E0) x = some (.slice none 0 0)) (hy : ∀ vs, ev (av o.after.toList vs dn ++ E0) y = some (u vs))
    (ht : ElemT P t e sz by_) (htx : slOf P tx = some e) (hsrc : ∀ vs h', le h h' → fc o.after.toList vs h' dn → Sl enc sz h' (u vs) L') (hfl : ∀ x ∈ L', (enc x).all flat = true)
    (hb : L'.length * by_ ≤ 140737488355328) (hm : L'.length ≤ 9223372036854775807) (hd : o.dst = some d) (hn : Nat.blt d n = true) (hg : ∀ vs, gd ops (av o.after.toList vs dn ++ E0) o = some true)
    (k : RG P n ops E0 D R h K (i + 1) l ((i, some d, .opq (fun _ _ => True) [] fun v' => [rowL enc v' e sz L']) :: dn)) : RG P n ops E0 D R h K i (o :: l) dn := by
  refine RG_gen (.opq (fun _ _ => True) [] fun v' => [rowL enc v' e sz L']) (fun _ _ _ _ _ => trivial) hd hn hg ?_ k
  intro vs h' hl hf
  refine Exec_upd (Upd.nilrow (e := e) (sz := sz)) (le.refl _) ?_
  refine (X_appendO (enc := enc) (L := []) (R := row (.slice none 0 0) e sz 0 [] :: R) (i := 0) ho (hx vs) (hy vs) ht htx rfl (Src.sl (hsrc vs h' hl hf)) hfl (by simpa using hb) (by simpa using hm)).mono ?_
  rintro e R' h'' - hA
  cases e with
  | returned v' => exact ⟨v', rfl, trivial, by rw [hA.1]; exact SubR.refl _⟩
  | panicked ch => exact hA.elim
  | outgrown => exact hA.elim
end
end Go.Par
