/- Engine: maps of one's own that are ranged over. It speaks of no program. -/
import Derived.Test.YtmohiefnoflndaaEngZ
import Derived.Maps.RangeRun
namespace Go.Par
open Go PH
/-- Each entry was born at its own time, all before now. -/
def goodB (es : Array MapEntry) (c : Nat) : Prop := (es.toList.map (·.born)).Pairwise (· < ·) ∧ ∀ x ∈ es.toList.map (·.born), x < c
theorem goodB.empty : goodB #[] 0 := ⟨.nil, fun x hx => by cases hx⟩
theorem goodB.push {es : Array MapEntry} {c : Nat} (h : goodB es c) (k v : Value) : goodB (es.push { key := k, val := v, born := c }) (c + 1) := by
  refine ⟨?_, fun x hx => ?_⟩
  · rw [Array.toList_push, List.map_append, List.pairwise_append]
    refine ⟨h.1, by simp, fun a ha b hb => ?_⟩
    simp only [List.map_cons, List.map_nil, List.mem_singleton] at hb
    rw [hb]; exact h.2 a ha
  · rw [Array.toList_push, List.map_append, List.mem_append] at hx
    rcases hx with hx | hx
    · have := h.2 x hx; omega
    · simp only [List.map_cons, List.map_nil, List.mem_singleton] at hx
      omega
theorem goodB.modify {es : Array MapEntry} {c : Nat} (h : goodB es c) (j : Nat) {f : MapEntry → MapEntry} (hf : ∀ e, (f e).born = e.born) : goodB (es.modify j f) c := by
  have : (es.modify j f).toList.map (·.born) = es.toList.map (·.born) := by
    apply List.ext_getElem?
    intro q
    rw [List.getElem?_map, List.getElem?_map, Array.getElem?_toList, Array.getElem?_modify, Array.getElem?_toList]
    split
    · cases es[q]? with
      | none => rfl
      | some e => simp [hf]
    · rfl
  unfold goodB
  rw [this]; exact h
theorem goodB.erase {es : Array MapEntry} {c : Nat} (h : goodB es c) (j : Nat) : goodB (es.eraseIdxIfInBounds j) c := by
  have hs : ((es.eraseIdxIfInBounds j).toList.map (·.born)).Sublist (es.toList.map (·.born)) := by
    rw [Array.toList_eraseIdxIfInBounds]
    exact (List.eraseIdx_sublist ..).map _
  exact ⟨h.1.sublist hs, fun x hx => h.2 x (hs.subset hx)⟩
section
variable {κ β : Type}
def mpB (ek : κ → Value) (ev : β → Value) (b : Nat) (L : List (κ × β)) : SL := fun g => ∃ (es : Array MapEntry) (c : Nat), g = one b (.map es c) ∧ es.toList.map (fun e => (e.key, e.val)) = L.map (fun x => (ek x.1, ev x.2)) ∧ goodB es c
end
section
variable {P : Program} {n : Nat} {ops : Array Oper} {l : List Oper} {o : Oper} {E : Env} {D : List Deferred} {R : List SL} {h : PH} {K : S → Prop} {Q : Exit → S → Prop}
variable {κ β : Type} {ek : κ → Value} {ev : β → Value}
/-- What a map of one's own holds, in the world. -/
theorem St.map_atB {κ0 : World} {h0 f : PH} {w : World} {i b : Nat} {L : List (κ × β)} (s : St κ0 h0 f R h w) (hi : R[i]? = some (mpB ek ev b L)) :
    ∃ es c, w.heap[b]? = some (.map es c) ∧ es.toList.map (fun e => (e.key, e.val)) = L.map (fun x => (ek x.1, ev x.2)) ∧ goodB es c ∧ St κ0 h0 f (R.set i (obj b (.map es c))) h w := by
  obtain ⟨a1, g, k, eh, hr, rest⟩ := s
  obtain ⟨x, y, rfl, hd, ⟨es, c, rfl, he, hgb⟩, hset, her⟩ := stars_get hi hr
  obtain ⟨r1, r2, r3, r4, r5, r6⟩ := rest
  refine ⟨es, c, r4 b _ (by simp [un, one]), he, hgb, a1, _, k, eh, hset (obj b (.map es c)) _ rfl hd, r1, r2, r3, r4, r5, r6⟩
theorem X_makeMapB {t : TypeId} (ho : o.op = .makeMap t none) : Exec P n o ⟨E, D, R, h⟩ (Ret fun v R' h' => ∃ b, v = .map (some b) ∧ R' = mpB ek ev b ([] : List (κ × β)) :: R ∧ h' = h) := by
  refine Exec_of_run fun κ0 h0 f a w _ ha hw => ?_
  have hst := hw.new (.map #[] 0)
  refine ⟨.map (some w.heap.size), _, h, _, .inl ?_, le.refl _, hst.setObj (i := 0) rfl (r' := mpB ek ev w.heap.size ([] : List (κ × β))) (fun g hg => ⟨#[], 0, hg, rfl, goodB.empty⟩), w.heap.size, rfl, rfl, rfl⟩
  simp [execOp, ho, Instr.makeMap, newObj]
  rfl
/-- A map opened: its entries. -/
theorem UpdE.openB (i : Nat) {b : Nat} {L : List (κ × β)} (hi : R[i]? = some (mpB ek ev b L)) : UpdE R h fun R' h' => h' = h ∧ ∃ es c, R' = R.set i (obj b (.map es c)) ∧ es.toList.map (fun e => (e.key, e.val)) = L.map (fun x => (ek x.1, ev x.2)) ∧ goodB es c := fun κ h0 f w _ s => by
  obtain ⟨es, c, _, he, hg, hs⟩ := s.map_atB hi
  exact ⟨_, h, le.refl _, ⟨rfl, es, c, rfl, he, hg⟩, hs⟩
theorem Upd.closeB (i : Nat) {b c : Nat} {es : Array MapEntry} {L : List (κ × β)} (hi : R[i]? = some (obj b (.map es c))) (he : es.toList.map (fun e => (e.key, e.val)) = L.map (fun x => (ek x.1, ev x.2))) (hg : goodB es c) : Upd R h (R.set i (mpB ek ev b L)) h := fun _ _ _ _ _ s =>
  s.setObj hi fun g hgg => ⟨es, c, hgg, he, hg⟩
theorem X_lenMapB {x : Operand} {t kt vt : TypeId} {i b : Nat} {L : List (κ × β)} (ho : o.op = .call ⟨.builtin .len, #[x], #[t]⟩) (ht : P.underlying t = some (.map kt vt)) (hx : Par.ev E x = some (.map (some b))) (hi : R[i]? = some (mpB ek ev b L)) :
    Exec P n o ⟨E, D, R, h⟩ (Is (.int .i64 L.length) R h) := by
  refine Exec_of_run fun κ0 h0 f a w _ ha hw => ?_
  obtain ⟨es, c, hb, he, -, -⟩ := hw.map_atB hi
  have hl : es.size = L.length := by
    have := congrArg List.length he
    simpa using this
  refine ⟨_, R, h, w, .inl ?_, le.refl _, hw, rfl, rfl, rfl⟩
  simp [execOp, ho, resolve, invoke, builtin, ha.ev hx, Builtin.len_, run_underlying w ht, run_getMap hb, goInt, hl]
variable [DecidableEq κ]
theorem X_lookupB_ok {x y : Operand} {t kt vt : TypeId} {i b : Nat} {L : List (κ × β)} {k : κ} {z : Value} (ho : o.op = .lookup t x y true) (ht : P.underlying t = some (.map kt vt)) (KD : KeyD P kt ek) (hz : zeOf P vt = some z)
    (hx : Par.ev E x = some (.map (some b))) (hy : Par.ev E y = some (ek k)) (hi : R[i]? = some (mpB ek ev b L)) : Exec P n o ⟨E, D, R, h⟩ (Is (.tuple #[((lkM L k).map ev).getD z, .bool (lkM L k).isSome]) R h) := by
  refine Exec_of_run fun κ0 h0 f a w _ ha hw => ?_
  obtain ⟨es, c, hb, he, -, -⟩ := hw.map_atB hi
  have hf := run_findKey (P := P) KD k w he
  refine ⟨_, R, h, w, .inl ?_, le.refl _, hw, rfl, rfl, rfl⟩
  simp only [execOp, ho, ha.ev hx, ha.ev hy, Instr.lookup, Sem.run_bind, run_underlying w ht, Result.andThen_ok, run_getMap hb, Sem.run_pure, KD.chk, hf]
  rcases ix_lk L k with ⟨h1, h2⟩ | ⟨j, v, h1, h2⟩
  · simp [h1, h2, run_zeroValue w hz]
  · simp [h1, h2]
theorem X_lookupB {x y : Operand} {t kt vt : TypeId} {i b : Nat} {L : List (κ × β)} {k : κ} {z : Value} (ho : o.op = .lookup t x y false) (ht : P.underlying t = some (.map kt vt)) (KD : KeyD P kt ek) (hz : zeOf P vt = some z)
    (hx : Par.ev E x = some (.map (some b))) (hy : Par.ev E y = some (ek k)) (hi : R[i]? = some (mpB ek ev b L)) : Exec P n o ⟨E, D, R, h⟩ (Is (((lkM L k).map ev).getD z) R h) := by
  refine Exec_of_run fun κ0 h0 f a w _ ha hw => ?_
  obtain ⟨es, c, hb, he, -, -⟩ := hw.map_atB hi
  have hf := run_findKey (P := P) KD k w he
  refine ⟨_, R, h, w, .inl ?_, le.refl _, hw, rfl, rfl, rfl⟩
  simp only [execOp, ho, ha.ev hx, ha.ev hy, Instr.lookup, Sem.run_bind, run_underlying w ht, Result.andThen_ok, run_getMap hb, Sem.run_pure, KD.chk, hf]
  rcases ix_lk L k with ⟨h1, h2⟩ | ⟨j, v, h1, h2⟩
  · simp [h1, h2, run_zeroValue w hz]
  · simp [h1, h2]
theorem WL_mapUpdateB {x y z : Operand} {t kt vt : TypeId} {i b : Nat} {L : List (κ × β)} {k : κ} {v : β} (ho : o.op = .mapUpdate t x y z) (ht : P.underlying t = some (.map kt vt)) (KD : KeyD P kt ek)
    (hx : Par.ev E x = some (.map (some b))) (hy : Par.ev E y = some (ek k)) (hz : Par.ev E z = some (ev v)) (hi : R[i]? = some (mpB ek ev b L)) (hd : o.dst = none) (hg : gd ops E o = some true)
    (kk : WL P n ops l ⟨E, D, R.set i (mpB ek ev b (upM L k v)), h⟩ K Q) : WL P n ops (o :: l) ⟨E, D, R, h⟩ K Q := by
  refine WL_do (A := fun _ R' h' => R' = R.set i (mpB ek ev b (upM L k v)) ∧ h' = h) ?_ hd hg fun _ _ _ _ ⟨e1, e2⟩ => by subst e1; subst e2; exact kk
  refine Exec_of_run fun κ0 h0 f a w _ ha hw => ?_
  obtain ⟨es, c, hb, he, hgb, hst⟩ := hw.map_atB hi
  have hf := run_findKey (P := P) KD k w he
  have hiL : i < R.length := by
    rcases Nat.lt_or_ge i R.length with h | h
    · exact h
    · simp [List.getElem?_eq_none h] at hi
  have hi2 : (R.set i (obj b (.map es c)))[i]? = some (obj b (.map es c)) := by simp [hiL]
  rcases ix_lk L k with ⟨h1, h2⟩ | ⟨j, u, h1, h2⟩
  · have h3 := (hst.setMap (es' := es.push { key := ek k, val := ev v, born := c }) (c' := c + 1) hi2)
    rw [List.set_set] at h3
    have h4 := h3.setObj (i := i) (r := obj b (.map (es.push { key := ek k, val := ev v, born := c }) (c + 1))) (by simp [hiL]) (r' := mpB ek ev b (upM L k v)) (fun g hg => ⟨_, _, hg, by rw [up_none v h1]; simp [he], hgb.push _ _⟩)
    rw [List.set_set] at h4
    refine ⟨_, _, h, _, .inr ⟨rfl, ?_⟩, le.refl _, h4, rfl, rfl⟩
    simp only [execOp, ho, ha.ev hx, ha.ev hy, ha.ev hz, Instr.mapUpdate, Sem.run_bind, run_underlying w ht, Result.andThen_ok, run_getMap hb, Sem.run_pure, KD.chk, hf, h1, h2]
    rw [run_setMap hb]; rfl
  · obtain ⟨x0, hx0, hxk⟩ := ix_get h1
    have hej : ∃ e, es[j]? = some e ∧ e.key = ek k := by
      have h9 : (es.toList.map (fun e => (e.key, e.val)))[j]? = (L.map (fun x => (ek x.1, ev x.2)))[j]? := by rw [he]
      rw [List.getElem?_map, List.getElem?_map, hx0] at h9
      simp only [Option.map_some, Option.map_eq_some_iff, Prod.mk.injEq] at h9
      obtain ⟨e, h10, h11, _⟩ := h9
      exact ⟨e, by simpa using h10, by rw [h11, hxk]⟩
    obtain ⟨e0, he0, hek⟩ := hej
    have h3 := (hst.setMap (es' := es.modify j fun e => { e with key := ek k, val := ev v }) (c' := c) hi2)
    rw [List.set_set] at h3
    have hmap : (es.modify j fun e => { e with key := ek k, val := ev v }).toList.map (fun e => (e.key, e.val)) = (upM L k v).map (fun x => (ek x.1, ev x.2)) := by
      rw [up_some v h1]
      apply List.ext_getElem?
      intro q
      have hq := congrArg (fun l => l[q]?) he
      simp only [List.getElem?_map] at hq
      rw [List.getElem?_map, List.getElem?_map, Array.getElem?_toList, Array.getElem?_modify]
      rw [Array.getElem?_toList] at hq
      by_cases hqj : j = q
      · subst hqj
        have hlt : j < L.length := (List.getElem?_eq_some_iff.1 hx0).1
        rw [if_pos rfl, he0, List.getElem?_set_self hlt]
        rfl
      · rw [if_neg hqj, List.getElem?_set_ne hqj]
        exact hq
    have h4 := h3.setObj (i := i) (r := obj b (.map (es.modify j fun e => { e with key := ek k, val := ev v }) c)) (by simp [hiL]) (r' := mpB ek ev b (upM L k v)) (fun g hg => ⟨_, _, hg, hmap, hgb.modify j (fun _ => rfl)⟩)
    rw [List.set_set] at h4
    have hks := run_keyStays (P := P) KD k w
    refine ⟨_, _, h, _, .inr ⟨rfl, ?_⟩, le.refl _, h4, rfl, rfl⟩
    simp only [execOp, ho, ha.ev hx, ha.ev hy, ha.ev hz, Instr.mapUpdate, Sem.run_bind, run_underlying w ht, Result.andThen_ok, run_getMap hb, Sem.run_pure, KD.chk, hf, h1, h2, he0, Option.map_some, Option.getD_some, hek, hks]
    rw [run_setMap hb]; rfl
theorem WL_deleteB {x y : Operand} {t tk kt vt : TypeId} {i b : Nat} {L : List (κ × β)} {k : κ} (ho : o.op = .call ⟨.builtin .delete, #[x, y], #[t, tk]⟩) (ht : P.underlying t = some (.map kt vt)) (KD : KeyD P kt ek)
    (hx : Par.ev E x = some (.map (some b))) (hy : Par.ev E y = some (ek k)) (hi : R[i]? = some (mpB ek ev b L)) (hd : o.dst = none) (hg : gd ops E o = some true)
    (kk : WL P n ops l ⟨E, D, R.set i (mpB ek ev b (delM L k)), h⟩ K Q) : WL P n ops (o :: l) ⟨E, D, R, h⟩ K Q := by
  refine WL_do (A := fun _ R' h' => R' = R.set i (mpB ek ev b (delM L k)) ∧ h' = h) ?_ hd hg fun _ _ _ _ ⟨e1, e2⟩ => by subst e1; subst e2; exact kk
  refine Exec_of_run fun κ0 h0 f a w _ ha hw => ?_
  obtain ⟨es, c, hb, he, hgb, hst⟩ := hw.map_atB hi
  have hf := run_findKey (P := P) KD k w he
  have ex := ha.ev hx
  have ey := ha.ev hy
  have hiL : i < R.length := by
    rcases Nat.lt_or_ge i R.length with h | h
    · exact h
    · simp [List.getElem?_eq_none h] at hi
  have hi2 : (R.set i (obj b (.map es c)))[i]? = some (obj b (.map es c)) := by simp [hiL]
  rcases ix_lk L k with ⟨h1, h2⟩ | ⟨j, u, h1, h2⟩
  · have h3 := (hst.setMap (es' := es) (c' := c) hi2)
    rw [List.set_set] at h3
    have h4 := h3.setObj (i := i) (r := obj b (.map es c)) (by simp [hiL]) (r' := mpB ek ev b (delM L k)) (fun g hg => ⟨_, _, hg, by rw [del_none h1]; exact he, hgb⟩)
    rw [List.set_set] at h4
    refine ⟨.tuple #[], _, h, _, .inl ?_, le.refl _, h4, rfl, rfl⟩
    simp [execOp, ho, resolve, invoke, builtin, Builtin.delete_, ex, ey, run_underlying w ht, run_getMap hb, KD.chk, hf, h1, h2, run_setMap hb]
  · have h3 := (hst.setMap (es' := es.eraseIdxIfInBounds j) (c' := c) hi2)
    rw [List.set_set] at h3
    have hmap : (es.eraseIdxIfInBounds j).toList.map (fun e => (e.key, e.val)) = (delM L k).map (fun x => (ek x.1, ev x.2)) := by
      rw [del_some h1, Array.toList_eraseIdxIfInBounds, map_eraseIdx, map_eraseIdx, he]
    have h4 := h3.setObj (i := i) (r := obj b (.map (es.eraseIdxIfInBounds j) c)) (by simp [hiL]) (r' := mpB ek ev b (delM L k)) (fun g hg => ⟨_, _, hg, hmap, hgb.erase j⟩)
    rw [List.set_set] at h4
    refine ⟨.tuple #[], _, h, _, .inl ?_, le.refl _, h4, rfl, rfl⟩
    simp [execOp, ho, resolve, invoke, builtin, Builtin.delete_, ex, ey, run_underlying w ht, run_getMap hb, KD.chk, hf, h1, h2, run_setMap hb]
theorem WL_range {x : Operand} {t kt vt : TypeId} {i b c : Nat} {es : Array MapEntry} {d : Tmp} (ho : o.op = .range t x) (ht : P.underlying t = some (.map kt vt)) (hx : Par.ev E x = some (.map (some b))) (hi : R[i]? = some (obj b (.map es c))) (hd : o.dst = some d) (hg : gd ops E o = some true) (hn : Nat.blt d n = true)
    (kk : ∀ r, WL P n ops l ⟨(d, .pointer (some ⟨r, 0, none⟩)) :: E, D, obj r (.mapIter (some b) c #[] c) :: R, h⟩ K Q) : WL P n ops (o :: l) ⟨E, D, R, h⟩ K Q := by
  refine WL_any (A := fun v R' h' => ∃ r, v = .pointer (some ⟨r, 0, none⟩) ∧ R' = obj r (.mapIter (some b) c #[] c) :: R ∧ h' = h) ?_ hd hg hn fun v R' h' _ ⟨r, e1, e2, e3⟩ => by subst e1; subst e2; subst e3; exact kk r
  refine Exec_of_run fun κ0 h0 f a w _ ha hw => ?_
  have hb := hw.obj_at hi
  refine ⟨.pointer (some ⟨w.heap.size, 0, none⟩), _, h, _, .inl ?_, le.refl _, hw.new (.mapIter (some b) c #[] c), w.heap.size, rfl, rfl, rfl⟩
  simp [execOp, ho, ha.ev hx, Instr.range, run_underlying w ht, run_getMap hb, newObj]
  rfl
theorem St.turnIt {κ0 : World} {h0 f : PH} {w : World} {i r b s c1 c2 : Nat} {s1 s2 : Array Nat} (st : St κ0 h0 f R h w) (hi : R[i]? = some (obj r (.mapIter (some b) s s1 c1))) : St κ0 h0 f (R.set i (obj r (.mapIter (some b) s s2 c2))) h (ChangeMaps.setBlock w r (.mapIter (some b) s s2 c2)) := by
  have hb := st.obj_at hi
  have hl : r < w.heap.size := (Array.getElem?_eq_some_iff.1 hb).1
  exact st.turn hi (by simp [ChangeMaps.setBlock]) rfl rfl rfl (by simp [ChangeMaps.setBlock, hl]) (fun b' hne => by simp [ChangeMaps.setBlock, Ne.symm hne])
theorem WL_next {x : Operand} {i j r b c : Nat} {es : Array MapEntry} {seen : Array Nat} {d : Tmp} (ho : o.op = .next x false) (hx : Par.ev E x = some (.pointer (some ⟨r, 0, none⟩))) (hi : R[i]? = some (obj r (.mapIter (some b) c seen c))) (hj : R[j]? = some (obj b (.map es c))) (hgb : goodB es c)
    (hd : o.dst = some d) (hg : gd ops E o = some true) (hn : Nat.blt d n = true)
    (k0 : (leftOf es seen).size = 0 → WL P n ops l ⟨(d, .tuple #[.bool false]) :: E, D, R, h⟩ K Q)
    (k1 : ∀ e ∈ (leftOf es seen).toList, WL P n ops l ⟨(d, .tuple #[.bool true, e.key, e.val]) :: E, D, R.set i (obj r (.mapIter (some b) c (seen.push e.born) c)), h⟩ K Q) : WL P n ops (o :: l) ⟨E, D, R, h⟩ K Q := by
  refine WL_any (A := fun v R' h' => h' = h ∧ (((leftOf es seen).size = 0 ∧ v = .tuple #[.bool false] ∧ R' = R) ∨ ∃ e ∈ (leftOf es seen).toList, v = .tuple #[.bool true, e.key, e.val] ∧ R' = R.set i (obj r (.mapIter (some b) c (seen.push e.born) c)))) ?_ hd hg hn ?_
  · refine Exec_of_run fun κ0 h0 f a w _ ha hw => ?_
    have h1 := hw.obj_at hi
    have h2 := hw.obj_at hj
    have hold : ∀ x ∈ es.toList, x.born < c := fun x hx => hgb.2 _ (List.mem_map.2 ⟨x, hx, rfl⟩)
    rcases run_next_at (P := P) w o.type r b c c seen es c h1 h2 hold (Nat.le_refl _) with ⟨hz, hr⟩ | ⟨e, he, w1, hw1, hr⟩
    · exact ⟨_, R, h, w, .inl (by simp [execOp, ho, ha.ev hx, hr]), le.refl _, hw, rfl, .inl ⟨hz, rfl, rfl⟩⟩
    · have hst : St κ0 h0 f R h w1 := by
        rcases hw1 with rfl | rfl
        · exact hw
        · exact hw.drawn _
      exact ⟨_, _, h, _, .inl (by simp [execOp, ho, ha.ev hx, hr]), le.refl _, hst.turnIt hi, rfl, .inr ⟨e, he, rfl, rfl⟩⟩
  · rintro v R' h' - ⟨rfl, ⟨hz, rfl, rfl⟩ | ⟨e, he, rfl, rfl⟩⟩
    · exact k0 hz
    · exact k1 e he
theorem goodB.nd {es : Array MapEntry} {c : Nat} (h : goodB es c) : (es.toList.map (·.born)).Nodup := pwk h.1 fun {a b} h e => by omega
theorem X_entry {x : Operand} {i j r b c : Nat} {es : Array MapEntry} {seen : Array Nat} {e : MapEntry} (ho : o.op = .entry x) (hx : Par.ev E x = some (.pointer (some ⟨r, 0, none⟩))) (hi : R[i]? = some (obj r (.mapIter (some b) c (seen.push e.born) c))) (hj : R[j]? = some (obj b (.map es c))) (hgb : goodB es c) (he : e ∈ es.toList) :
    Exec P n o ⟨E, D, R, h⟩ (Is (.tuple #[e.key, e.val]) R h) := by
  refine Exec_of_run fun κ0 h0 f a w _ ha hw => ?_
  have h1 := hw.obj_at hi
  have h2 := hw.obj_at hj
  have hr := run_entry_at (P := P) w r b c seen es c e h1 h2 he hgb.nd
  exact ⟨_, R, h, w, .inl (by simp [execOp, ho, ha.ev hx, hr]), le.refl _, hw, rfl, rfl, rfl⟩
theorem mem_left {es : Array MapEntry} {seen : Array Nat} {e : MapEntry} : e ∈ (leftOf es seen).toList ↔ e ∈ es.toList ∧ ¬ e.born ∈ seen.toList := by
  unfold leftOf
  simp
end
end Go.Par
