/- Locks: asking again, and freeing (plain), and tables lent. -/
import Derived.Test.YtgbcdjofkfdgnaaLockX
namespace Go.Proofs.Ytgbcdjofkfdgnaa
open Go Go.Par PH
theorem mayE8 {p : Int} (hp : 0 ≤ p ∧ p < 8) : mayE 8 p = 0 := if_pos hp
theorem want_held {qs : List (List Int)} {p id : Int} (hp : 0 ≤ p ∧ p < 8) (hm : id ∈ holdsL qs p qs.length) : wantV qs 8 p id = tup true 0 ∧ wantQ qs 8 p id = qs := by
  have hm0 := mayE8 hp
  have hid : 0 ≤ id ∧ id < qs.length := by
    obtain ⟨k, hk, rfl, _⟩ := holdsL_mem.1 hm
    omega
  constructor
  · unfold wantV; rw [if_neg (not_not_intro hm0), if_neg (not_not_intro hid), if_pos hm]
  · unfold wantQ; exact if_neg fun hg => hg.2.2.1 hm
theorem want_waits {qs : List (List Int)} {p : Int} (hp : 0 ≤ p ∧ p < 8) (H : PInv qs) (hw : wB qs p = true) : wantV qs 8 p (wI qs p) = tup false 0 ∧ wantQ qs 8 p (wI qs p) = qs := by
  have hm0 := mayE8 hp
  obtain ⟨hk, ht⟩ := wB_tail hw
  have hwi : wI qs p = (waitsN qs p : Int) := if_pos hk
  have hid : 0 ≤ wI qs p ∧ wI qs p < qs.length := by omega
  have hnm : ¬ wI qs p ∈ holdsL qs p qs.length := fun hm => by
    obtain ⟨i, hi, e⟩ := List.getElem_of_mem hm
    have := holds_lt H hw hi
    omega
  have hlg : lastGt (holdsL qs p qs.length) (wI qs p) = false := by
    unfold lastGt
    split
    · rename_i h
      have := holds_lt H hw (i := (holdsL qs p qs.length).length - 1) (by omega)
      exact decide_eq_false (by omega)
    · rfl
  constructor
  · unfold wantV
    rw [if_neg (not_not_intro hm0), if_neg (not_not_intro hid), if_neg hnm, if_neg, if_pos hk]
    rintro (⟨_, h⟩ | h)
    · exact h hwi.symm
    · rw [hlg] at h; cases h
  · unfold wantQ; exact if_neg fun hg => hg.2.2.2.2 hk
theorem freeQ8 {qs : List (List Int)} {p : Int} (hp : 0 ≤ p ∧ p < 8) : freeQ qs 8 p = qs.map (keep · p) := if_pos (mayE8 hp)
theorem holds_freed {qs : List (List Int)} {p : Int} {m : Nat} : holdsL (qs.map (keep · p)) p m = [] := by
  rw [List.eq_nil_iff_forall_not_mem]
  intro x hx
  obtain ⟨k, hk, _, hh⟩ := holdsL_mem.1 hx
  rw [head_is] at hh
  have hm := List.mem_of_head? hh
  rcases Nat.lt_or_ge k qs.length with h | h
  · simp only [List.getElem?_map, List.getElem?_eq_getElem h, Option.map_some, Option.getD_some] at hm
    have := (List.mem_filter.1 hm).2
    simp at this
  · simp [List.getElem?_eq_none h] at hm
/-- What stands in the first cells is known. -/
def WsOk (h : PH) (ws : List Value) (qs : List (List Int)) (k : Nat) : Prop := ∀ i (hi : i < k) (hq : i < qs.length), ∃ v, ws[i]? = some v ∧ Sl encI 1 h v qs[i]
theorem WsOk.mono {h h' : PH} {ws : List Value} {qs : List (List Int)} {k : Nat} (H : WsOk h ws qs k) (hl : le h h') : WsOk h' ws qs k := fun i hi hq => by
  obtain ⟨v, h1, h2⟩ := H i hi hq
  exact ⟨v, h1, h2.mono hl⟩
theorem WsOk.set {h : PH} {ws : List Value} {qs : List (List Int)} {k : Nat} (H : WsOk h ws qs k) (hk : k < ws.length) (hq : k < qs.length) {v : Value} (hv : Sl encI 1 h v qs[k]) : WsOk h (ws.set k v) qs (k + 1) := fun i hi hq => by
  by_cases e : k = i
  · subst e; exact ⟨v, by simp [hk], hv⟩
  · obtain ⟨u, h1, h2⟩ := H i (by omega) hq
    exact ⟨u, by rw [List.getElem?_set_ne e]; exact h1, h2⟩
attribute [local irreducible] W WL Does Exec Body Then inBlk RG WR row obj pblk
theorem queue_lent (h : PH) (b : Nat) (qs : List (List Int)) (procs id : Int) (ok : QOk qs) : Does Try.prog 19 [.pointer (some ⟨b, 0, none⟩), .int .i64 id] [tabL 49 b qs procs] h
    (Ret fun r R' h' => Sl encI 1 h' r (queueAt qs id) ∧ R' = [tabL 49 b qs procs]) :=
  (lend ok fun h v vs K => queue_fn h b v vs qs procs id K).upd fun v R' h' _ ⟨R1, e1, e2⟩ => by
    subst e1; subst e2
    refine (UpdE.row (enc := encI) 1 rfl (lenI _)).mono ?_
    rintro _ h2 - ⟨rfl, hs⟩
    exact ⟨hs, rfl⟩
theorem holds_lent (h : PH) (b : Nat) (qs : List (List Int)) (procs p : Int) (ok : QOk qs) : Does Try.prog 18 [.pointer (some ⟨b, 0, none⟩), .int .i64 p] [tabL 49 b qs procs] h
    (Ret fun r R' h' => Sl encI 1 h' r (holdsL qs p qs.length) ∧ R' = [tabL 49 b qs procs]) :=
  (lend ok fun h v vs K => holds_fn h b v vs qs procs p K).upd fun v R' h' _ ⟨R1, e1, e2⟩ => by
    subst e1; subst e2
    refine (UpdE.row (enc := encI) 1 rfl (lenI _)).mono ?_
    rintro _ h2 - ⟨rfl, hs⟩
    exact ⟨hs, rfl⟩
theorem waits_lent (h : PH) (b : Nat) (qs : List (List Int)) (procs p : Int) (ok : QOk qs) : Does Try.prog 17 [.pointer (some ⟨b, 0, none⟩), .int .i64 p] [tabL 49 b qs procs] h
    (Ret fun r R' _ => r = .tuple #[.int .i64 (wI qs p), .bool (wB qs p)] ∧ R' = [tabL 49 b qs procs]) :=
  (lend ok fun h v vs K => waits_fn h b v vs qs procs p K).wkn fun v R' h' _ ⟨R1, e1, e2, e3⟩ => ⟨by rw [e2, waitsV_eq], by rw [e1, e3]⟩
theorem holder_lent (h : PH) (b : Nat) (qs : List (List Int)) (procs id : Int) (ok : QOk qs) : Does Try.prog 20 [.pointer (some ⟨b, 0, none⟩), .int .i64 id] [tabL 49 b qs procs] h
    (Ret fun r R' _ => r = holderV (queueAt qs id) ∧ R' = [tabL 49 b qs procs]) :=
  (lend ok fun h v vs K => holder_fn h b v vs qs procs id K).wkn fun v R' h' _ ⟨R1, e1, e2, e3⟩ => ⟨e2, by rw [e1, e3]⟩
end Go.Proofs.Ytgbcdjofkfdgnaa
