/- From a contract to a law's row. It speaks of no program. -/
import Derived.Test.YtcgmbfgmofcemaaEng
import Derived.ProofKit
namespace Go.Par
open Go PH Go.ChangeShapes Go.WideShapes Go.ChangeAt Go.RowKit

/-- All that the world has. -/
def hp (W : World) : PH := fun b => W.heap[b]?
theorem St_hp (W : World) : St W (hp W) (hp W) [] (hp W) W :=
  ⟨⟨rfl, rfl, rfl, Nat.le_refl _⟩, none_, none_, (un_none_right _).symm, rfl, dj_none_left _, dj_none_left _, dj_none_left _, fun b o h => by simp [none_] at h, fun b o h => by simp [none_] at h, fun b o h => h⟩
/-- What a contract, told of all there is, keeps. -/
theorem Does.below {P : Program} {f : FuncId} {args : List Value} {W : World} {A : Value → List SL → PH → Prop} (H : Does P f args [] (hp W) (Ret A)) :
    Calls P f args.toArray W fun e W' => Below W.heap.size W W' ∧ ∃ v R' h', e = .returned v ∧ A v R' h' :=
  (H (hp W) W (le.refl _) (St_hp W)).mono fun e W' ⟨he, R', h', hle, hs, hA⟩ => by
    obtain ⟨⟨b1, b2, b3, b4⟩, g, k, _, _, _, _, _, _, _, hw⟩ := hs
    refine ⟨⟨b1, b2, b3, b4, fun i hi => ?_⟩, ?_⟩
    · have h1 : W.heap[i]? = some W.heap[i] := Array.getElem?_eq_getElem hi
      rw [h1]; exact hw i _ h1
    · cases e with
      | returned v => exact ⟨v, R', h', rfl, hA⟩
      | panicked ch => exact hA.elim
      | outgrown => exact hA.elim

section
variable {H : Type} {enc : TypeId × Value → H} {P : Program}
theorem trodAll_stays (hl : laidOutB P = true) {W W' : World} (hb : Below W.heap.size W W') {sp : Nat → Bool} : ∀ {ts : List TypeId} {vs : List Value} {ds : List (DataW H)} {ps : List MemPlace}, (∀ t ∈ ts, P.readableRec t = true ∧ t < P.types.size) →
    DataW.TrodAll enc P W 0 (fun _ => true) true ts vs ds ps → (∀ x ∈ ps, x.block < W.heap.size) → (∀ x ∈ ps, sp x.block = true) → DataW.TrodAll enc P W' 0 sp true ts vs ds ps
  | [], vs, ds, ps, _, h, _, _ => by obtain ⟨rfl, rfl, rfl⟩ := trodAll_nil h; rfl
  | t :: ts, vs, ds, ps, ht, h, h1, h2 => by
    obtain ⟨v, vs', d, ds', p, q, rfl, rfl, rfl, hd, hr⟩ := trodAll_cons h
    have := ht t (by simp)
    exact ⟨p, q, WideElems.Trod_stays hl this.1 this.2 hd (fun x hx => hb.same (h1 x (by simp [hx]))) (fun x hx => h2 x (by simp [hx])), trodAll_stays hl hb (fun t' h' => ht t' (by simp [h'])) hr (fun x hx => h1 x (by simp [hx])) (fun x hx => h2 x (by simp [hx])), rfl⟩

theorem post_true {f : Func} {s : ChangeSpec} {apart fresh handsOn again : Bool} {W W' : World} {args : Array Value} {ds gs : List (DataW H)} {before : List MemPlace} {tb : TypeId}
    (hl : laidOutB P = true) (ht : ∀ t ∈ f.params.toList, P.readableRec t = true ∧ t < P.types.size) (hv : s.vars = []) (hr : f.resultTypes = #[tb]) (htb : P.underlying tb = some .bool)
    (hsr : (s.fn H ds).results = [.lit (.bool true)]) (hsa : (s.fn H ds).args = ds) (hsv : (s.fn H ds).vars = [])
    (hW : DataW.Whole enc P f.params.toList s.vars apart W args.toList ds gs before) (hb : Below W.heap.size W W') : s.post enc P f apart fresh handsOn again W args (.bool true) W' := by
  have hW' := hW
  have hlt : ∀ p ∈ before, p.block < W.heap.size := fun p hp => hW'.lt p hp
  obtain ⟨pa, pv, hA, hV, rfl, hz, hn⟩ := hW
  rw [hv] at hV
  obtain ⟨rfl, rfl⟩ := trodVars_none hV
  rw [List.append_nil] at *
  have hres : ∀ (b : Nat) (sp : Nat → Bool) (hd : Bool), DataW.TrodAll enc P W' b sp hd f.resultTypes.toList ((Value.bool true).resultList f.resultTypes.size) (s.fn H ds).results [] := fun b sp hd => by
    rw [hr, hsr]; exact trodAll_mk1 (shut_bool htb true)
  have hargs : ∀ sp : Nat → Bool, (∀ p ∈ pa, sp p.block = true) → DataW.TrodAll enc P W' 0 sp true f.params.toList args.toList (s.fn H ds).args pa := fun sp hsp => by
    rw [hsa]; exact trodAll_stays hl hb ht hA hlt hsp
  have hvars : ∀ sp : Nat → Bool, DataW.TrodVars enc P W' sp s.vars (s.fn H ds).vars [] := fun sp => by rw [hv, hsv]; rfl
  refine ⟨ds, [], pa, [], pa, [], hW', ?_, ?_, ?_, hb.frame _, fun _ => ?_⟩
  · rw [List.append_nil]; exact hres _ _ _
  · rw [List.append_nil]; exact hargs _ (fun p hp => by simpa using hlt p hp)
  · rw [List.append_nil]; exact hvars _
  · refine ⟨ok_one hr rfl (okWide_bool_mk htb true), _, _, ([] ++ pa) ++ [], ⟨[] ++ pa, [], trodAll_append (hargs _ (fun _ _ => rfl)) (hres 0 _ _), hvars _, rfl, ?_, ?_⟩, ?_⟩
    · intro b off hp
      have hp' : MemPlace.cell b off ∈ pa := by simpa using hp
      have := hlt _ hp'
      have h2 := hz b off hp'
      rw [← h2]; exact hb.frozen this
    · intro ha
      have := hn ha
      simpa using this
    · intro p hp _
      simpa using hp
end
end Go.Par
