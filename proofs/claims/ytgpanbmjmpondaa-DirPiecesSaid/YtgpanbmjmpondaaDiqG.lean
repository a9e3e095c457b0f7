/- Directories: who lists piece by piece (plain). -/
import Derived.Test.YtgpanbmjmpondaaDiqF
namespace Go.Proofs.Ytgpanbmjmpondaa
set_option maxRecDepth 4000
open Go Go.Par PH
def transD (d d' : Dr) (t : Stp) : Prop := (t.tk = true → ∀ a, a ∈ allL d' ↔ a ∈ allL d ∧ ¬ a.2.nm = t.nm) ∧ (t.tk = false → ∃ p, (allL d').Perm ((p, sloT t) :: allL d)) 
theorem step_any {d : Dr} {n : Nat} (hi : InvD d n) (hn : n ≤ 254) {t : Stp} (hio : 0 ≤ t.ino ∧ t.ino ≤ 255) : (∃ d', stepR d t = (d', 0) ∧ InvD d' (n + 1) ∧ transD d d' t) ∨ ¬ (stepR d t).2 = 0 := by
  by_cases hex : ∃ e ∈ allL d, e.2.nm = t.nm
  · obtain ⟨e, he, hn2⟩ := hex
    cases ht : t.tk with
    | true =>
      obtain ⟨d', h1, h2, h3, h4⟩ := step_take hi ht he hn2
      exact .inl ⟨d', h1, h2, fun _ => h4, fun h => by rw [ht] at h; cases h⟩
    | false => exact .inr (step_no hi (.inr ⟨ht, .inr ⟨e, he, hn2⟩⟩))
  · have hno : ∀ e ∈ allL d, ¬ e.2.nm = t.nm := fun e he hn2 => hex ⟨e, he, hn2⟩
    cases ht : t.tk with
    | true => exact .inr (step_no hi (.inl ⟨ht, hno⟩))
    | false =>
      by_cases hc : checkE t.nm = 0
      · obtain ⟨d', p, h1, h2, h3, h4, h5⟩ := step_put hi hn ht hio hc hno
        exact .inl ⟨d', h1, h2, (fun h => by rw [ht] at h; cases h), fun _ => ⟨p, h3⟩⟩
      · exact .inr (step_no hi (.inr ⟨ht, .inl hc⟩))
theorem transD.len {d d' : Dr} {t : Stp} (h : transD d d' t) (hnd : (nms (allL d)).Nodup) (f : Int) : (behL f (allL d')).length ≤ (behL f (allL d)).length + 1 := by
  cases ht : t.tk with
  | true =>
    have h1 := h.1 ht
    have hs : (behL f (allL d')).Perm ((behL f (allL d)).filter fun a => !decide (a.2.nm = t.nm)) := by
      refine (List.perm_ext_iff_of_nodup ((nodup_all d').filter _) (((nodup_all d).filter _).filter _)).2 fun a => ?_
      rw [List.mem_filter, List.mem_filter, List.mem_filter, h1]
      simp only [decide_eq_true_eq, Bool.not_eq_true', decide_eq_false_iff_not]
      constructor
      · rintro ⟨⟨a1, a2⟩, a3⟩; exact ⟨⟨a1, a3⟩, a2⟩
      · rintro ⟨⟨a1, a3⟩, a2⟩; exact ⟨⟨a1, a2⟩, a3⟩
    rw [hs.length_eq]
    exact Nat.le_succ_of_le (List.length_filter_le ..)
  | false =>
    obtain ⟨p, hp⟩ := h.2 ht
    have := (hp.filter fun e => decide (f < cookS e.1)).length_eq
    unfold behL
    rw [this, List.filter_cons]
    split
    · exact Nat.le_refl _
    · omega
def tv (T : List (Bs × Int)) (k : Bs) : Int := (lkM T k).getD 0
theorem tv_up (T : List (Bs × Int)) (k : Bs) (v : Int) (k' : Bs) : tv (upM T k v) k' = if k' = k then v else tv T k' := by
  unfold tv
  rw [lk_up]
  split <;> rfl
theorem tv_look (T : List (Bs × Int)) (k : Bs) : ((lkM T k).map evI).getD (.int .i64 0) = .int .i64 (tv T k) := by
  unfold tv
  cases lkM T k <;> rfl
/-- What holds of all that were there ahead, and are there all the while. -/
def JP (F A : List (Spo × Slo)) (S T : List (Bs × Int)) (f : Int) : Prop := ∀ e ∈ F, tv S e.2.nm = 1 → e ∈ A ∧ tv T e.2.nm = if cookS e.1 ≤ f then 1 else 0
theorem beh_next {A : List (Spo × Slo)} (hs : A.Pairwise fun a b => cookS a.1 < cookS b.1) {f : Int} {x : Spo × Slo} {tl : List (Spo × Slo)} (h : behL f A = x :: tl) :
    f < cookS x.1 ∧ behL (cookS x.1) A = tl ∧ x ∈ A ∧ ∀ e ∈ A, f < cookS e.1 → e = x ∨ cookS x.1 < cookS e.1 := by
  have hx : x ∈ behL f A := by rw [h]; simp
  have hx2 := List.mem_filter.1 hx
  have hfx : f < cookS x.1 := by simpa using hx2.2
  have hs2 : (x :: tl).Pairwise fun a b => cookS a.1 < cookS b.1 := by rw [← h]; exact hs.filter _
  rw [List.pairwise_cons] at hs2
  refine ⟨hfx, ?_, hx2.1, fun e he hfe => ?_⟩
  · have h1 : behL (cookS x.1) A = (behL f A).filter fun e => decide (cookS x.1 < cookS e.1) := by
      unfold behL
      rw [List.filter_filter]
      congr 1
      funext e
      by_cases h2 : cookS x.1 < cookS e.1
      · have : f < cookS e.1 := by omega
        simp [h2, this]
      · simp [h2]
    rw [h1, h, List.filter_cons, if_neg (by simp), List.filter_eq_self.2 fun e he => by simpa using hs2.1 e he]
  · have : e ∈ behL f A := List.mem_filter.2 ⟨he, by simpa using hfe⟩
    rw [h] at this
    rcases List.mem_cons.1 this with h2 | h2
    · exact .inl h2
    · exact .inr (hs2.1 e h2)
theorem JP.tell {F A : List (Spo × Slo)} {S T : List (Bs × Int)} {f : Int} {x : Spo × Slo} {tl : List (Spo × Slo)} (h : JP F A S T f) (hs : A.Pairwise fun a b => cookS a.1 < cookS b.1) (hnd : (nms A).Nodup) (hb : behL f A = x :: tl) :
    JP F A S (upM T x.2.nm (tv T x.2.nm + 1)) (cookS x.1) := fun e he hse => by
  obtain ⟨h1, h2⟩ := h e he hse
  obtain ⟨b1, b2, b3, b4⟩ := beh_next hs hb
  refine ⟨h1, ?_⟩
  rw [tv_up]
  by_cases hn : e.2.nm = x.2.nm
  · have hex := inj_nms hnd e h1 x b3 hn
    subst hex
    rw [if_neg (by omega)] at h2
    rw [if_pos rfl, if_pos (Int.le_refl _), h2]; rfl
  · rw [if_neg hn, h2]
    by_cases hle : cookS e.1 ≤ f
    · rw [if_pos hle, if_pos (by omega)]
    · rw [if_neg hle]
      rcases b4 e h1 (by omega) with rfl | h5
      · exact absurd rfl hn
      · rw [if_neg (by omega)]
theorem JP.take {F : List (Spo × Slo)} {d d' : Dr} {S T : List (Bs × Int)} {f : Int} {t : Stp} (h : JP F (allL d) S T f) (ht : t.tk = true) (ha : transD d d' t) : JP F (allL d') (upM S t.nm 0) T f := fun e he hse => by
  rw [tv_up] at hse
  by_cases hn : e.2.nm = t.nm
  · rw [if_pos hn] at hse; omega
  · rw [if_neg hn] at hse
    obtain ⟨h1, h2⟩ := h e he hse
    exact ⟨(ha.1 ht e).2 ⟨h1, hn⟩, h2⟩
theorem JP.put {F : List (Spo × Slo)} {d d' : Dr} {S T : List (Bs × Int)} {f : Int} {t : Stp} (h : JP F (allL d) S T f) (ht : t.tk = false) (ha : transD d d' t) : JP F (allL d') S T f := fun e he hse => by
  obtain ⟨h1, h2⟩ := h e he hse
  obtain ⟨p, hp⟩ := ha.2 ht
  exact ⟨hp.mem_iff.2 (List.mem_cons_of_mem _ h1), h2⟩
theorem list_may {d : Dr} (hm : mayD d = true) (f m : Int) (h0 : 0 ≤ m) : listR d f m = (listL (allL d) f m, 0) := by
  unfold listR
  rw [if_pos ⟨hm, h0⟩]
end Go.Proofs.Ytgpanbmjmpondaa
