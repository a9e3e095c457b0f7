/- Arguments, opened: what a reading tells of values. It speaks of no program. -/
import Derived.Test.YtakdjabamjgcfaaLaw
import Derived.DataReads
namespace Go.Par
open Go PH

/-- What whatever reads as type t is. -/
def Opn {α : Type} (P : Program) (t : TypeId) (Rel : PH → List Value → α → Prop) : Prop :=
  ∀ {H : Type} {enc : TypeId × Value → H} {W : World} {sp : Nat → Bool} {held : Bool} {fuel : Nat} {cs : List Value} {x : DataW H × List MemPlace}, DataW.trod enc P W 0 sp held fuel t cs = some x → ∃ a, Rel (hp W) cs a
section
variable {P : Program} {t e : TypeId}
theorem Opn_int {k : IntKind} (ht : P.underlying t = some (.int k)) : Opn P t fun _ cs (n : Int) => cs = [.int k n] ∧ k.min ≤ n ∧ n ≤ k.max := by
  intro H enc W sp held fuel cs x h
  cases fuel with
  | zero => simp [DataW.trod] at h
  | succ fuel =>
    unfold DataW.trod at h
    simp only [ht] at h
    split at h <;> simp_all [Lit.wf]
theorem Opn_bool (ht : P.underlying t = some .bool) : Opn P t fun _ cs (b : Bool) => cs = [.bool b] := by
  intro H enc W sp held fuel cs x h
  cases fuel with
  | zero => simp [DataW.trod] at h
  | succ fuel =>
    unfold DataW.trod at h
    simp only [ht] at h
    split at h <;> simp_all
theorem Opn_string (ht : P.underlying t = some .string) : Opn P t fun _ cs (s : ByteArray) => cs = [.string s] ∧ s.size ≤ maxLen := by
  intro H enc W sp held fuel cs x h
  cases fuel with
  | zero => simp [DataW.trod] at h
  | succ fuel =>
    unfold DataW.trod at h
    simp only [ht] at h
    split at h <;> simp_all
theorem trod_fields {H : Type} {enc : TypeId × Value → H} {W : World} {sp : Nat → Bool} {held : Bool} {fuel : Nat} {cs : List Value} {x : DataW H × List MemPlace} {fs : Array Field} (ht : P.underlying t = some (.struct fs)) (h : DataW.trod enc P W 0 sp held fuel t cs = some x) :
    cs.length = P.cellsOf t ∧ ∀ f ∈ fs.toList, ∃ fuel' y, DataW.trod enc P W 0 sp held fuel' f.type ((cs.drop f.offset).take (P.cellsOf f.type)) = some y := by
  cases fuel with
  | zero => simp [DataW.trod] at h
  | succ fuel =>
    unfold DataW.trod at h
    simp only [ht] at h
    split at h
    · rename_i hl
      refine ⟨hl, fun f hf => ?_⟩
      obtain ⟨i, hi⟩ := List.getElem?_of_mem hf
      cases hm : (fs.toList.mapM fun f => DataW.trod enc P W 0 sp held fuel f.type ((cs.drop f.offset).take (P.cellsOf f.type))) with
      | none => rw [hm] at h; simp at h
      | some r =>
        have hlen := mapM_some_length hm
        have hg := mapM_some_get hm i f hi
        have hir : i < r.length := by rw [hlen]; exact idx_lt hi
        rw [List.getElem?_eq_getElem hir] at hg
        exact ⟨fuel, _, hg⟩
    · cases h
theorem cellsQ {W : World} {a : Addr} {n : Nat} {cs : List Value} (h : W.cells? 0 a n = some cs) : cs.length = n ∧ ∀ j, j < n → W.cell? (a.add j) = cs[j]? := by
  unfold World.cells? at h
  rw [if_pos (Nat.zero_le _)] at h
  refine ⟨by rw [mapM_some_length h]; simp, fun j hj => mapM_some_get h j j (by simp [hj])⟩
theorem cell_inv {W : World} {a : Addr} {v : Value} (h : W.cell? a = some v) : a.spot = none ∧ ∃ c t fr, W.heap[a.block]? = some (.cells c t fr) ∧ c[a.off]? = some v := by
  unfold World.cell? at h
  split at h
  · rename_i c t fr hb
    split at h
    · cases h
    · rename_i hs
      exact ⟨by simpa using hs, c, t, fr, hb, h⟩
  · cases h
theorem Opn_slice {α : Type} {enc : α → List Value} {sz : Nat} {ok : α → Prop} (ht : P.underlying t = some (.slice e)) (hc : P.cellsOf e = sz) (hsz : 0 < sz) (he : Opn P e fun _ cs a => cs = enc a ∧ ok a) :
    Opn P t fun h cs (p : Value × List α) => cs = [p.1] ∧ Sl enc sz h p.1 p.2 ∧ ∀ a ∈ p.2, ok a := by
  intro H enc' W sp held fuel cs x h
  cases fuel with
  | zero => simp [DataW.trod] at h
  | succ fuel =>
    unfold DataW.trod at h
    simp only [ht] at h
    split at h
    all_goals try (rename_i heq; cases heq; done)
    all_goals try (exfalso; cases h; done)
    · exact ⟨(.slice none 0 0, []), rfl, Sl.nil, fun a ha => by cases ha⟩
    · rename_i e' a len cap heq
      cases heq
      split at h
      · rename_i hb
        cases hm : (List.range len).mapM fun i => (W.cells? 0 (a.add (i * P.cellsOf e)) (P.cellsOf e)).bind (DataW.trod enc' P W 0 sp held fuel e) with
        | none => simp only [hc] at hm h; rw [hm] at h; cases h
        | some r =>
          have hlen := mapM_some_length hm
          rw [List.length_range] at hlen
          have hg := mapM_some_get hm
          rw [hc] at hg
          have key : ∀ i, i < len → ∃ y : α, ok y ∧ W.cells? 0 (a.add (i * sz)) sz = some (enc y) := fun i hi => by
            have h1 := hg i i (by simp [hi])
            rw [List.getElem?_eq_getElem (by omega)] at h1
            cases h2 : W.cells? 0 (a.add (i * sz)) sz with
            | none => rw [h2] at h1; cases h1
            | some ci =>
              rw [h2] at h1
              obtain ⟨y, rfl, hy⟩ := he h1
              exact ⟨y, hy, rfl⟩
          have hL : ∀ n, n ≤ len → ∃ L : List α, L.length = n ∧ (∀ y ∈ L, ok y) ∧ ∀ i (hi : i < L.length), W.cells? 0 (a.add (i * sz)) sz = some (enc L[i]) := by
            intro n
            induction n with
            | zero => intro _; exact ⟨[], rfl, (fun y hy => by cases hy), (fun i hi => by simp at hi)⟩
            | succ n ih =>
              intro hn
              obtain ⟨L, h1, h2, h3⟩ := ih (by omega)
              obtain ⟨y, h4, h5⟩ := key n (by omega)
              refine ⟨L ++ [y], by simp [h1], fun z hz => ?_, fun i hi => ?_⟩
              · simp only [List.mem_append, List.mem_singleton] at hz
                rcases hz with hz | rfl
                · exact h2 z hz
                · exact h4
              · rcases Nat.lt_or_ge i L.length with hl | hl
                · rw [List.getElem_append_left hl]; exact h3 i hl
                · have : i = n := by simp at hi; omega
                  subst this
                  rw [List.getElem_append_right hl]; simpa using h5
          obtain ⟨L, hl, hok, hcells⟩ := hL len (Nat.le_refl _)
          subst hl
          refine ⟨(.slice (some a) L.length cap, L), rfl, ⟨fun y hy => ?_, some a, cap, rfl, hb.2.1, (fun h => by cases h), ?_⟩, hok⟩
          · obtain ⟨i, hi, rfl⟩ := List.getElem_of_mem hy
            exact (cellsQ (hcells i hi)).1
          · by_cases hL0 : L = []
            · exact .inl hL0
            · right
              have hpos : 0 < L.length := List.length_pos_iff.2 hL0
              have h0 := (cellsQ (hcells 0 hpos))
              have hc0 : W.cell? a = (enc L[0])[0]? := by
                have := h0.2 0 hsz
                simpa [Addr.add] using this
              rw [List.getElem?_eq_getElem (by rw [h0.1]; exact hsz)] at hc0
              obtain ⟨hspot, c, t', fr, hbl, _⟩ := cell_inv hc0
              refine ⟨a.block, a.off, c.toList, t', fr, ?_, ?_, ?_⟩
              · obtain ⟨b, o, s⟩ := a; simp only at hspot; subst hspot; rfl
              · simpa [hp] using hbl
              · intro i hi j hj
                have h1 := (cellsQ (hcells i hi)).2 j hj
                have hv : (enc L[i])[j]? = some ((enc L[i])[j]'(by rw [(cellsQ (hcells i hi)).1]; exact hj)) := List.getElem?_eq_getElem _
                rw [hv] at h1 ⊢
                obtain ⟨_, c2, t2, fr2, hb2, hx⟩ := cell_inv h1
                have hadd : ((a.add (i * sz)).add j).block = a.block ∧ ((a.add (i * sz)).add j).off = a.off + i * sz + j := by
                  constructor
                  · simp only [Addr.add]; split <;> split <;> rfl
                  · simp only [Addr.add]; split <;> split <;> simp_all
                rw [hadd.1, hbl] at hb2
                cases hb2
                rw [hadd.2] at hx
                simpa using hx
      · exact absurd h (by simp)
end
end Go.Par
