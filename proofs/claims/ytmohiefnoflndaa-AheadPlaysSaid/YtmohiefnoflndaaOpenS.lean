/- Arguments, opened: what a reading tells of values whose weights are known. It speaks of no program. -/
import Derived.Test.YtmohiefnoflndaaOpen
import Derived.SizedLaws
namespace Go.Par
open Go PH
/-- What whatever reads as type t is, if it is not too great. -/
def OpnS {α : Type} (P : Program) (t : TypeId) (Rel : PH → List Value → α → Prop) : Prop :=
  ∀ {H : Type} {enc : TypeId × Value → H} {W : World} {sp : Nat → Bool} {held : Bool} {fuel : Nat} {cs : List Value} {x : DataW H × List MemPlace}, DataW.trod enc P W 0 sp held fuel t cs = some x → (∀ k ∈ DataW.weights P t x.1, k ≤ reachBytes) → ∃ a, Rel (hp W) cs a
section
variable {P : Program} {t e : TypeId}
theorem Opn.s {α : Type} {Rel : PH → List Value → α → Prop} (h : Opn P t Rel) : OpnS P t Rel := fun ht _ => h ht
theorem weightsAll_mem {H : Type} {d : DataW H} {ds : List (DataW H)} {k : Nat} (hd : d ∈ ds) (hk : k ∈ DataW.weights P e d) : k ∈ DataW.weightsAll P e ds := by
  induction ds with
  | nil => cases hd
  | cons x ds ih =>
    unfold DataW.weightsAll
    rcases List.mem_cons.1 hd with h | h
    · subst h; exact List.mem_append_left _ hk
    · exact List.mem_append_right _ (ih h)
theorem weightsEach_mem {H : Type} : ∀ {ts : List TypeId} {ds : List (DataW H)} {i : Nat} {t : TypeId} {d : DataW H} {k : Nat}, ts[i]? = some t → ds[i]? = some d → k ∈ DataW.weights P t d → k ∈ DataW.weightsEach P ts ds
  | [], _, _, _, _, _, h1, _, _ => by simp at h1
  | _ :: _, [], _, _, _, _, _, h2, _ => by simp at h2
  | _ :: ts, _ :: ds, 0, _, _, _, h1, h2, hk => by
    cases h1; cases h2
    unfold DataW.weightsEach
    exact List.mem_append_left _ hk
  | _ :: ts, _ :: ds, i + 1, _, _, _, h1, h2, hk => by
    unfold DataW.weightsEach
    exact List.mem_append_right _ (weightsEach_mem (i := i) (by simpa using h1) (by simpa using h2) hk)
theorem trod_fieldsS {H : Type} {enc : TypeId × Value → H} {W : World} {sp : Nat → Bool} {held : Bool} {fuel : Nat} {cs : List Value} {x : DataW H × List MemPlace} {fs : Array Field} (ht : P.underlying t = some (.struct fs)) (h : DataW.trod enc P W 0 sp held fuel t cs = some x) (hw : ∀ k ∈ DataW.weights P t x.1, k ≤ reachBytes) :
    cs.length = P.cellsOf t ∧ ∀ f ∈ fs.toList, ∃ fuel' y, DataW.trod enc P W 0 sp held fuel' f.type ((cs.drop f.offset).take (P.cellsOf f.type)) = some y ∧ ∀ k ∈ DataW.weights P f.type y.1, k ≤ reachBytes := by
  cases fuel with
  | zero => simp [DataW.trod] at h
  | succ fuel =>
    unfold DataW.trod at h
    simp only [ht] at h
    split at h
    · rename_i hl
      refine ⟨hl, fun f hf => ?_⟩
      obtain ⟨i, hi⟩ := List.getElem?_of_mem hf
      cases hm : (fs.toList.mapM fun f => DataW.trod enc P W 0 sp held fuel f.type ((cs.drop f.offset).take (P.cellsOf f.type))) with
      | none => rw [hm] at h; simp at h
      | some r =>
        rw [hm] at h
        simp only [Option.map_some, Option.some.injEq] at h
        subst h
        simp only [DataW.weights, ht] at hw
        have hlen := mapM_some_length hm
        have hg := mapM_some_get hm i f hi
        have hir : i < r.length := by rw [hlen]; exact idx_lt hi
        rw [List.getElem?_eq_getElem hir] at hg
        exact ⟨fuel, _, hg, fun k hk => hw k (weightsEach_mem (i := i) (by rw [List.getElem?_map, hi]; rfl) (by rw [List.getElem?_map, List.getElem?_eq_getElem hir]; rfl) hk)⟩
    · cases h
theorem OpnS_slice {α : Type} {enc : α → List Value} {sz : Nat} {ok : PH → α → Prop} (ht : P.underlying t = some (.slice e)) (hc : P.cellsOf e = sz) (hsz : 0 < sz) (he : OpnS P e fun h cs a => cs = enc a ∧ ok h a) :
    OpnS P t fun h cs (p : Value × List α) => cs = [p.1] ∧ Sl enc sz h p.1 p.2 ∧ (∀ a ∈ p.2, ok h a) ∧ p.2.length * P.bytesOf e ≤ reachBytes := by
  intro H enc' W sp held fuel cs x h hw
  cases fuel with
  | zero => simp [DataW.trod] at h
  | succ fuel =>
    unfold DataW.trod at h
    simp only [ht] at h
    split at h
    all_goals try (rename_i heq; cases heq; done)
    all_goals try (exfalso; cases h; done)
    · exact ⟨(.slice none 0 0, []), rfl, Sl.nil, (fun a ha => by cases ha), by simp⟩
    · rename_i e' a len cap heq
      cases heq
      split at h
      · rename_i hb
        cases hm : (List.range len).mapM fun i => (W.cells? 0 (a.add (i * P.cellsOf e)) (P.cellsOf e)).bind (DataW.trod enc' P W 0 sp held fuel e) with
        | none => simp only [hc] at hm h; rw [hm] at h; cases h
        | some r =>
          have hlen := mapM_some_length hm
          rw [List.length_range] at hlen
          have hm' := hm
          simp only [hc] at hm' h
          rw [hm'] at h
          simp only [Option.bind_some] at h
          obtain ⟨rest, -, hx⟩ := Option.map_eq_some_iff.1 h
          subst hx
          simp only [DataW.weights, ht] at hw
          have hg := mapM_some_get hm
          rw [hc] at hg
          have key : ∀ i, i < len → ∃ y : α, ok (hp W) y ∧ W.cells? 0 (a.add (i * sz)) sz = some (enc y) := fun i hi => by
            have h1 := hg i i (by simp [hi])
            rw [List.getElem?_eq_getElem (by omega)] at h1
            cases h2 : W.cells? 0 (a.add (i * sz)) sz with
            | none => rw [h2] at h1; cases h1
            | some ci =>
              rw [h2] at h1
              obtain ⟨y, rfl, hy⟩ := he h1 fun k hk => hw k (.tail _ (List.mem_append_left _ (weightsAll_mem (List.mem_map.2 ⟨_, List.getElem_mem _, rfl⟩) hk)))
              exact ⟨y, hy, rfl⟩
          have hL : ∀ n, n ≤ len → ∃ L : List α, L.length = n ∧ (∀ y ∈ L, ok (hp W) y) ∧ ∀ i (hi : i < L.length), W.cells? 0 (a.add (i * sz)) sz = some (enc L[i]) := by
            intro n
            induction n with
            | zero => intro _; exact ⟨[], rfl, (fun y hy => by cases hy), (fun i hi => by simp at hi)⟩
            | succ n ih =>
              intro hn
              obtain ⟨L, h1, h2, h3⟩ := ih (by omega)
              obtain ⟨y, h4, h5⟩ := key n (by omega)
              refine ⟨L ++ [y], by simp [h1], fun z hz => ?_, fun i hi => ?_⟩
              · simp only [List.mem_append, List.mem_singleton] at hz
                rcases hz with hz | rfl
                · exact h2 z hz
                · exact h4
              · rcases Nat.lt_or_ge i L.length with hl | hl
                · rw [List.getElem_append_left hl]; exact h3 i hl
                · have : i = n := by simp at hi; omega
                  subst this
                  rw [List.getElem_append_right hl]; simpa using h5
          obtain ⟨L, hl, hok, hcells⟩ := hL len (Nat.le_refl _)
          subst hl
          refine ⟨(.slice (some a) L.length cap, L), rfl, ⟨fun y hy => ?_, some a, cap, rfl, hb.2.1, (fun h => by cases h), ?_⟩, hok, ?_⟩
          · obtain ⟨i, hi, rfl⟩ := List.getElem_of_mem hy
            exact (cellsQ (hcells i hi)).1
          · by_cases hL0 : L = []
            · exact .inl hL0
            · right
              have hpos : 0 < L.length := List.length_pos_iff.2 hL0
              have h0 := (cellsQ (hcells 0 hpos))
              have hc0 : W.cell? a = (enc L[0])[0]? := by
                have := h0.2 0 hsz
                simpa [Addr.add] using this
              rw [List.getElem?_eq_getElem (by rw [h0.1]; exact hsz)] at hc0
              obtain ⟨hspot, c, t', fr, hbl, _⟩ := cell_inv hc0
              refine ⟨a.block, a.off, c.toList, t', fr, ?_, ?_, ?_⟩
              · obtain ⟨b, o, s⟩ := a; simp only at hspot; subst hspot; rfl
              · simpa [hp] using hbl
              · intro i hi j hj
                have h1 := (cellsQ (hcells i hi)).2 j hj
                have hv : (enc L[i])[j]? = some ((enc L[i])[j]'(by rw [(cellsQ (hcells i hi)).1]; exact hj)) := List.getElem?_eq_getElem _
                rw [hv] at h1 ⊢
                obtain ⟨_, c2, t2, fr2, hb2, hx⟩ := cell_inv h1
                have hadd : ((a.add (i * sz)).add j).block = a.block ∧ ((a.add (i * sz)).add j).off = a.off + i * sz + j := by
                  constructor
                  · simp only [Addr.add]; split <;> split <;> rfl
                  · simp only [Addr.add]; split <;> split <;> simp_all
                rw [hadd.1, hbl] at hb2
                cases hb2
                rw [hadd.2] at hx
                simpa using hx
          · have h1 := hw _ (List.mem_cons_self ..)
            rw [List.length_map, List.length_map, hlen] at h1
            exact Nat.le_trans (Nat.mul_le_mul_right _ (Nat.le_add_right _ _)) h1
      · exact absurd h (by simp)

end
end Go.Par
