/- Directories: names put and taken (plain). -/
import Derived.Test.YtgpanbmjmpondaaDiqA
namespace Go.Proofs.Ytgpanbmjmpondaa
set_option maxRecDepth 4000
open Go Go.Par PH
theorem inj_nms : ∀ {l : List (Spo × Slo)}, (nms l).Nodup → ∀ a ∈ l, ∀ b ∈ l, a.2.nm = b.2.nm → a = b
  | [], _, a, ha, _, _, _ => by cases ha
  | x :: l, h, a, ha, b, hb, e => by
    have h' : (x.2.nm :: nms l).Nodup := h
    rw [List.nodup_cons] at h'
    have hin : ∀ y ∈ l, y.2.nm ∈ nms l := fun y hy => List.mem_map.2 ⟨y, hy, rfl⟩
    rcases List.mem_cons.1 ha with rfl | ha
    · rcases List.mem_cons.1 hb with hb' | hb'
      · exact hb'.symm
      · exact absurd (e ▸ hin b hb') h'.1
    · rcases List.mem_cons.1 hb with hb' | hb'
      · exact absurd (hb' ▸ e ▸ hin a ha) h'.1
      · exact inj_nms h'.2 a ha b hb' e
theorem nodup_nms : ∀ {l : List (Spo × Slo)}, l.Nodup → (∀ a ∈ l, ∀ b ∈ l, a.2.nm = b.2.nm → a = b) → (nms l).Nodup
  | [], _, _ => .nil
  | x :: l, h, hi => by
    rw [List.nodup_cons] at h
    show (x.2.nm :: nms l).Nodup
    rw [List.nodup_cons]
    refine ⟨fun hm => ?_, nodup_nms h.2 fun a ha b hb => hi a (List.mem_cons_of_mem _ ha) b (List.mem_cons_of_mem _ hb)⟩
    obtain ⟨y, hy, e⟩ := List.mem_map.1 hm
    have := hi y (List.mem_cons_of_mem _ hy) x (List.mem_cons_self ..) e
    rw [this] at hy; exact h.1 hy
theorem may_iff {d : Dr} : mayD d = true ↔ maxR d ≤ 255 ∧ (∀ e ∈ allL d, okS e = true) ∧ (nms (allL d)).Nodup := by
  simp only [mayD, goodL, Bool.and_eq_true, List.all_eq_true, decide_eq_true_eq]
theorem fnd_some {l : List (Spo × Slo)} (h : (nms l).Nodup) {s : Bs} {e : Spo × Slo} : fndL s l = some e ↔ e ∈ l ∧ e.2.nm = s := by
  refine ⟨fnd_mem, fun ⟨h1, h2⟩ => ?_⟩
  cases hf : fndL s l with
  | none =>
    unfold fndL at hf
    rw [List.find?_eq_none] at hf
    exact absurd h2 (by simpa using hf e h1)
  | some e' =>
    have := fnd_mem hf
    rw [inj_nms h e' this.1 e h1 (by rw [this.2, h2])]
theorem fnd_none {l : List (Spo × Slo)} {s : Bs} : fndL s l = none ↔ ∀ e ∈ l, ¬ e.2.nm = s := by
  unfold fndL
  rw [List.find?_eq_none]
  simp
def tenD (d : Dr) : Prop := ∀ k, k < 4 → tenR (d.row k)
theorem ten_with {d : Dr} (h : tenD d) {k c s : Nat} (hk : k < 4) (y : Slo) : tenD (withD d k c s y) := fun q hq => by
  unfold withD
  rw [row_put _ _ _ _ hk hq]
  split
  · exact ten_setRw (h k hk) c s y
  · exact h q hq
theorem same_spot {d : Dr} {a b : Spo × Slo} (ha : a ∈ allL d) (hb : b ∈ allL d) (h : a.1 = b.1) : a = b := by
  obtain ⟨k, c, s, _, _, e1, e2, _⟩ := mem_all.1 ha
  obtain ⟨k', c', s', _, _, e1', e2', _⟩ := mem_all.1 hb
  obtain ⟨rfl, rfl, rfl⟩ := cast_inj (e1.symm.trans (h.trans e1'))
  exact Prod.ext h (by rw [e2, e2'])
theorem len_with (d : Dr) {k c s : Nat} (hk : k < 4) (y : Slo) {q : Nat} (hq : q < 4) : ((withD d k c s y).row q).length = if q = k ∧ c = (d.row k).length then (d.row k).length + 1 else (d.row q).length := by
  unfold withD
  rw [row_put _ _ _ _ hk hq]
  by_cases h : q = k
  · subst h
    rw [if_pos rfl, setRw_len]
    simp
  · rw [if_neg h, if_neg (fun h' => h h'.1)]
theorem take_ok {d : Dr} (hte : tenD d) (hm : mayD d = true) {e : Spo × Slo} (he : e ∈ allL d) : ∃ d', takeR d e.2.nm = (d', 0) ∧ mayD d' = true ∧ tenD d' ∧ (∀ k, k < 4 → (d'.row k).length ≤ (d.row k).length) ∧ ∀ a, a ∈ allL d' ↔ a ∈ allL d ∧ ¬ a.2.nm = e.2.nm := by
  obtain ⟨m1, m2, m3⟩ := may_iff.1 hm
  have hf := (fnd_some m3).2 ⟨he, rfl⟩
  obtain ⟨k, c, i, hk, hi, hc, h1, _⟩ := slots_ok (all_slots he).1
  have hmem : ∀ a, a ∈ allL (withD d k c i slo0) ↔ a ∈ allL d ∧ ¬ a.2.nm = e.2.nm := fun a => by
    rw [all_with hte hk (by omega) hi]
    constructor
    · rintro (⟨h, _⟩ | ⟨h, ha⟩)
      · exact absurd rfl h
      · exact ⟨ha, fun hn => h (by rw [← h1, inj_nms m3 a ha e he hn])⟩
    · rintro ⟨ha, hn⟩
      exact .inr ⟨fun hs => hn (by rw [same_spot ha he (by rw [hs, h1])]), ha⟩
  have hlen : ∀ q, q < 4 → ((withD d k c i slo0).row q).length ≤ (d.row q).length := fun q hq => by
    rw [len_with d hk slo0 hq, if_neg (fun h => by omega)]
    exact Nat.le_refl _
  refine ⟨withD d k c i slo0, ?_, ?_, ten_with hte hk _, hlen, hmem⟩
  · rw [takeF hm, hf]
    dsimp only
    unfold withP
    rw [h1]; rfl
  · rw [may_iff]
    refine ⟨maxR_of fun q hq => ?_, fun a ha => m2 a ((hmem a).1 ha).1, nodup_nms (nodup_all _) fun a ha b hb => inj_nms m3 a ((hmem a).1 ha).1 b ((hmem b).1 hb).1⟩
    have := hlen q hq
    have := row_le d q
    omega
theorem take_no {d : Dr} (hm : mayD d = true) {s : Bs} (h : ∀ e ∈ allL d, ¬ e.2.nm = s) : takeR d s = (dr0, 3) := by
  rw [takeF hm, fnd_none.2 h]
theorem room_free {d : Dr} (hte : tenD d) (hm : mayD d = true) {s : Bs} (hc : checkE s = 0) (hno : ∀ e ∈ allL d, ¬ e.2.nm = s) (hrows : ∀ k, k < 4 → (d.row k).length ≤ 254) :
    ∃ (k c i : Nat) (f : Bool), roomR d s = (⟨k, c, i⟩, f, 0) ∧ k < 4 ∧ c ≤ (d.row k).length ∧ i < 10 ∧ bucketL s = (k : Int) ∧ slotG (d.row k) c i = slo0 := by
  obtain ⟨k, hk, hk4⟩ := bucket_ok s
  have hr : roomR d s = _ := if_pos ⟨hm, hc⟩
  rw [fnd_none.2 hno, hk] at hr
  simp only [Int.toNat_natCast] at hr
  cases hem : emR (d.row k) with
  | some n =>
    rw [hem] at hr
    obtain ⟨hl, he⟩ := emR_lt (hte k hk4) hem
    refine ⟨k, n / 10, n % 10, false, hr, hk4, by omega, by omega, hk, ?_⟩
    have hcl : n / 10 < (d.row k).length := by omega
    have hg := cells_get (d.row k) (hte k hk4) (n / 10) hcl (n % 10) (by omega)
    rw [show n / 10 * 10 + n % 10 = n from by omega, he] at hg
    unfold slotG
    rw [List.getElem?_eq_getElem hcl]
    dsimp only
    rw [← hg]; rfl
  | none =>
    rw [hem] at hr
    dsimp only at hr
    have := hrows k hk4
    rw [if_neg (by omega)] at hr
    refine ⟨k, (d.row k).length, 0, true, hr, hk4, Nat.le_refl _, by omega, hk, ?_⟩
    unfold slotG
    rw [List.getElem?_eq_none (Nat.le_refl _)]
theorem put_ok {d : Dr} (hte : tenD d) (hm : mayD d = true) {x : Slo} (hx : mayS x = true) (hc : checkE x.nm = 0) (hno : ∀ e ∈ allL d, ¬ e.2.nm = x.nm) (hrows : ∀ k, k < 4 → (d.row k).length ≤ 254) :
    ∃ d' p, putR d x = (d', 0) ∧ mayD d' = true ∧ tenD d' ∧ (∀ k, k < 4 → (d'.row k).length ≤ (d.row k).length + 1) ∧ (∀ a ∈ allL d, ¬ a.1 = p) ∧ ∀ a, a ∈ allL d' ↔ a = (p, x) ∨ a ∈ allL d := by
  obtain ⟨m1, m2, m3⟩ := may_iff.1 hm
  obtain ⟨k, c, i, f, hr, hk, hcl, hi, hb, hg⟩ := room_free hte hm hc hno hrows
  have hx0 : ¬ x = slo0 := fun h => by rw [h] at hx; exact absurd hx (by decide)
  have hfree : ∀ a ∈ allL d, ¬ a.1 = ⟨k, c, i⟩ := fun a ha h => by
    obtain ⟨k', c', s', _, _, e1, e2, e3⟩ := mem_all.1 ha
    obtain ⟨rfl, rfl, rfl⟩ := cast_inj (e1.symm.trans h)
    exact e3 (by rw [e2, hg])
  have hmem : ∀ a, a ∈ allL (withD d k c i x) ↔ a = (⟨k, c, i⟩, x) ∨ a ∈ allL d := fun a => by
    rw [all_with hte hk hcl hi]
    constructor
    · rintro (⟨_, h⟩ | ⟨_, h⟩)
      · exact .inl h
      · exact .inr h
    · rintro (h | h)
      · exact .inl ⟨hx0, h⟩
      · exact .inr ⟨hfree a h, h⟩
  have hlen : ∀ q, q < 4 → ((withD d k c i x).row q).length ≤ (d.row q).length + 1 := fun q hq => by
    rw [len_with d hk x hq]
    split
    · rename_i h; rw [h.1]; exact Nat.le_refl _
    · omega
  refine ⟨withD d k c i x, ⟨k, c, i⟩, ?_, ?_, ten_with hte hk _, hlen, hfree, hmem⟩
  · unfold putR
    rw [if_pos ⟨hm, hx⟩, hr]
    rfl
  · rw [may_iff]
    have hinj : ∀ a ∈ allL (withD d k c i x), ∀ b ∈ allL (withD d k c i x), a.2.nm = b.2.nm → a = b := fun a ha b hb' e => by
      rcases (hmem a).1 ha with rfl | ha
      · rcases (hmem b).1 hb' with rfl | hb'
        · rfl
        · exact absurd e.symm (hno b hb')
      · rcases (hmem b).1 hb' with rfl | hb'
        · exact absurd e (hno a ha)
        · exact inj_nms m3 a ha b hb' e
    refine ⟨maxR_of fun q hq => ?_, fun a ha => ?_, nodup_nms (nodup_all _) hinj⟩
    · have := hlen q hq
      have := hrows q hq
      omega
    · rcases (hmem a).1 ha with rfl | ha
      · simp only [okS, hx, hc, hb, decide_true, Bool.and_self]
      · exact m2 a ha
theorem put_no {d : Dr} {x : Slo} (h : ¬ checkE x.nm = 0 ∨ ∃ e ∈ allL d, e.2.nm = x.nm) : ¬ (putR d x).2 = 0 := by
  have hr : mayD d = true → ¬ (roomR d x.nm).2.2 = 0 := fun hm => by
    unfold roomR
    rcases h with h | ⟨e, he, hn⟩
    · rw [if_neg (fun h' => h h'.2)]; simp
    · by_cases hc : checkE x.nm = 0
      · rw [if_pos ⟨hm, hc⟩, (fnd_some (may_iff.1 hm).2.2).2 ⟨he, hn⟩]; simp
      · rw [if_neg (fun h' => hc h'.2)]; simp
  unfold putR
  split
  · rename_i h'
    rw [if_neg (hr h'.1)]
    exact hr h'.1
  · simp
end Go.Proofs.Ytgpanbmjmpondaa
