/- Words ahead: words and lists of lists opened; what is seen (plain). -/
import Derived.Test.YtmohiefnoflndaaAheadH
namespace Go.Proofs.Ytmohiefnoflndaa
set_option maxRecDepth 4000
open Go Go.Par PH Go.ChangeShapes Go.WideShapes Go.ChangeAt Go.RowKit
def encU (x : Int) : List Value := [.int .u64 x]
theorem elemU : ElemT Try.prog 46 31 1 8 := ElemT.mk' rfl rfl
theorem lenU (l : List Int) : ∀ x ∈ l, (encU x).length = 1 := fun _ _ => rfl
theorem flatU (l : List Int) : ∀ x ∈ l, (encU x).all flat = true := fun _ _ => rfl
theorem opnU : Opn Try.prog 31 fun _ cs (a : Int) => cs = encU a ∧ True := by
  intro H enc W sp held fuel cs x h
  obtain ⟨a, e, _⟩ := Opn_int (k := .u64) rfl h
  exact ⟨a, e, trivial⟩
theorem opnUs : Opn Try.prog 46 fun h cs (p : Value × List Int) => cs = [p.1] ∧ Sl encU 1 h p.1 p.2 ∧ ∀ a ∈ p.2, True := Opn_slice rfl rfl (by decide) opnU
theorem open_words {H : Type} {enc : TypeId × Value → H} {W : World} {r : Reach} {base : Nat} {sp : Nat → Bool} {held : Bool} {v : Value} {d : DataW H} {ps : List MemPlace} (hval : Value.okWide Try.prog W r base 46 v)
    (hd : DataW.Trod enc Try.prog W 0 sp held 46 v d ps) : ∃ l, Sl encU 1 (hp W) v l := by
  obtain ⟨fuel, hd⟩ := hd
  obtain ⟨⟨u, l⟩, e, hs, _⟩ := opnUs hd
  obtain ⟨a, m, cap, rfl⟩ := okWide_slice (e := 31) rfl hval
  have e : [Value.slice a m cap] = [u] := e
  cases e
  exact ⟨l, hs⟩
def encL (p : Value × List (Int × Int)) : List Value := [p.1]
def okL (h : PH) (p : Value × List (Int × Int)) : Prop := Sl encR 2 h p.1 p.2 ∧ ∀ a ∈ p.2, in64 a.1
theorem okL.mono {h h' : PH} {p : Value × List (Int × Int)} (k : okL h p) (hl : le h h') : okL h' p := ⟨k.1.mono hl, k.2⟩
theorem opnL : Opn Try.prog 28 fun h cs (p : Value × List (Int × Int)) => cs = encL p ∧ okL h p := opnRs
theorem open_lists {H : Type} {enc : TypeId × Value → H} {W : World} {r : Reach} {base : Nat} {sp : Nat → Bool} {held : Bool} {v : Value} {d : DataW H} {ps : List MemPlace} (hval : Value.okWide Try.prog W r base 47 v)
    (hd : DataW.Trod enc Try.prog W 0 sp held 47 v d ps) (hw : ∀ k ∈ DataW.weights Try.prog 47 d, k ≤ reachBytes) : ∃ l, Sl encL 1 (hp W) v l ∧ ∀ s ∈ l, okL (hp W) s := by
  obtain ⟨fuel, hd⟩ := hd
  obtain ⟨⟨u, l⟩, e, hs, hok, _⟩ := OpnS_slice (P := Try.prog) (sz := 1) (t := 47) (e := 28) rfl rfl (by decide) (ok := okL) opnL.s hd hw
  obtain ⟨a, m, cap, rfl⟩ := okWide_slice (e := 28) rfl hval
  have e : [Value.slice a m cap] = [u] := e
  cases e
  exact ⟨l, hs, hok⟩
/-- The table over words tells what is seen. -/
structure InvS (N : Nat) (T : List (Int × Int)) (W S : List Int) : Prop where
  nd : (keysW T).Nodup
  lw : W.length = N
  ls : S.length = N
  ks : ∀ x ∈ T, 0 ≤ x.1 ∧ x.1 < N
  lk : ∀ (k : Nat) (h : k < N), (lkM T (k : Int)).getD (W[k]'(by omega)) = S[k]'(by omega)
theorem InvS.zero {W : List Int} : InvS W.length [] W W := ⟨.nil, rfl, rfl, fun x hx => (by cases hx), fun k h => rfl⟩
theorem keys_in {T : List (Int × Int)} {k : Int} : k ∈ keysW T ↔ ∃ x ∈ T, x.1 = k := by unfold keysW; rw [List.mem_map]
theorem up_keys {N : Nat} {T : List (Int × Int)} (h : ∀ k ∈ keysW T, 0 ≤ k ∧ k < N) {a : Nat} (ha : a < N) (w : Int) : ∀ k ∈ keysW (upM T (a : Int) w), 0 ≤ k ∧ k < N := fun k hk => by
  rcases (keys_upW T _ w k).1 hk with h1 | h1
  · omega
  · exact h k h1
theorem ks_iff {N : Nat} {T : List (Int × Int)} : (∀ x ∈ T, 0 ≤ x.1 ∧ x.1 < N) ↔ ∀ k ∈ keysW T, 0 ≤ k ∧ k < N := by
  unfold keysW
  constructor
  · intro h k hk
    obtain ⟨x, hx, rfl⟩ := List.mem_map.1 hk
    exact h x hx
  · intro h x hx
    exact h x.1 (List.mem_map.2 ⟨x, hx, rfl⟩)
theorem InvS.put {N : Nat} {T : List (Int × Int)} {W S : List Int} (v : InvS N T W S) {a : Nat} (ha : a < N) (w : Int) : InvS N (upM T (a : Int) w) W (S.set a w) := by
  have h1 := v.lw
  have h2 := v.ls
  refine ⟨nd_upW _ _ v.nd, h1, by simp [h2], ks_iff.2 (up_keys (ks_iff.1 v.ks) ha w), fun k hk => ?_⟩
  rw [lk_upW]
  by_cases e : k = a
  · subst e; simp
  · rw [if_neg (by omega), List.getElem_set_ne (fun h => e h.symm), v.lk k hk]
theorem lk_mem {T : List (Int × Int)} (h : (keysW T).Nodup) {x : Int × Int} (hx : x ∈ T) : lkM T x.1 = some x.2 := by
  induction T with
  | nil => cases hx
  | cons y T ih =>
    have h' : (y.1 :: keysW T).Nodup := h
    rw [List.nodup_cons] at h'
    rcases List.mem_cons.1 hx with e | e
    · simp [lkM, e]
    · have hne : ¬ x.1 = y.1 := fun e2 => h'.1 (by rw [← e2]; exact List.mem_map.2 ⟨x, e, rfl⟩)
      simp only [lkM, if_neg hne]; exact ih h'.2 e
theorem InvS.done {N : Nat} {T : List (Int × Int)} {W S : List Int} (v : InvS N T W S) {a : Nat} (ha : a < N) {w : Int} (hw : lkM T (a : Int) = some w) : InvS N (delM T (a : Int)) (W.set a w) S := by
  have h1 := v.lw
  have h2 := v.ls
  refine ⟨nd_delW _ v.nd, by simp [h1], h2, ks_iff.2 fun k hk => ks_iff.1 v.ks k (keys_delW hk), fun k hk => ?_⟩
  have h3 := v.lk k hk
  rw [lk_delW _ _ v.nd]
  by_cases e : k = a
  · subst e
    rw [hw] at h3
    simpa using h3
  · rw [if_neg (by omega), List.getElem_set_ne (fun h => e h.symm), h3]
theorem perm_lk {L T : List (Int × Int)} (hp : L.Perm T) (h : (keysW T).Nodup) (k : Int) : lkM L k = lkM T k := by
  have hl : (keysW L).Nodup := ((hp.map (fun x : Int × Int => x.1)).nodup_iff).2 h
  cases hk : lkM T k with
  | none =>
    rw [lk_noneW] at hk ⊢
    exact fun h' => hk ((hp.map (fun x : Int × Int => x.1)).mem_iff.1 h')
  | some w =>
    have h1 : k ∈ keysW T := Decidable.byContradiction fun h' => by rw [lk_noneW.2 h'] at hk; cases hk
    obtain ⟨x, hx, rfl⟩ := keys_in.1 h1
    rw [lk_mem h hx] at hk
    cases hk
    exact lk_mem hl (hp.mem_iff.2 hx)
/-- What is listed from place k on, is in the table still. -/
def Has (T L : List (Int × Int)) (k : Nat) : Prop := ∀ j (h : j < L.length), k ≤ j → lkM T L[j].1 = some L[j].2
theorem Has.zero {T L : List (Int × Int)} (hp : L.Perm T) (h : (keysW T).Nodup) : Has T L 0 := fun _ hj _ => lk_mem h (hp.mem_iff.1 (List.getElem_mem hj))
theorem Has.next {T L : List (Int × Int)} {k : Nat} (h : Has T L k) : Has T L (k + 1) := fun j hj hk => h j hj (by omega)
theorem Has.done {T L : List (Int × Int)} {k : Nat} (h : Has T L k) (hk : k < L.length) (hn : (keysW T).Nodup) (hl : (keysW L).Nodup) : Has (delM T L[k].1) L (k + 1) := fun j hj hkj => by
  rw [lk_delW _ _ hn, if_neg, h j hj (by omega)]
  intro e
  have h1 : (keysW L)[j]'(by simpa [keysW] using hj) = (keysW L)[k]'(by simpa [keysW] using hk) := by simpa [keysW] using e
  have := (List.getElem_inj hl).1 h1
  omega
/-- Storing what is listed. -/
structure InvF (N k : Nat) (L : List (Int × Int)) (W S : List Int) : Prop where
  lw : W.length = N
  lk : ∀ (j : Nat) (h : j < N) (hs : j < S.length), (lkM (L.drop k) (j : Int)).getD (W[j]'(by omega)) = S[j]
theorem InvF.zero {N : Nat} {L T : List (Int × Int)} {W S : List Int} (v : InvS N T W S) (hp : L.Perm T) : InvF N 0 L W S := ⟨v.lw, fun j h hs => by rw [List.drop_zero, perm_lk hp v.nd]; exact v.lk j h⟩
theorem InvF.next {N k : Nat} {L : List (Int × Int)} {W S : List Int} (v : InvF N k L W S) (hl : (keysW L).Nodup) (hk : k < L.length) {a : Nat} (ha : L[k].1 = (a : Int)) (_han : a < N) : InvF N (k + 1) L (W.set a L[k].2) S := by
  have h1 := v.lw
  refine ⟨by simp [h1], fun j h hs => ?_⟩
  have h2 := v.lk j h hs
  rw [List.drop_eq_getElem_cons hk] at h2
  by_cases e : j = a
  · subst e
    have h3 : lkM (L.drop (k + 1)) (j : Int) = none := by
      rw [lk_noneW]
      intro hm
      have h4 : (keysW (L.drop k)).Nodup := by
        unfold keysW at hl ⊢
        rw [List.map_drop]; exact hl.sublist (List.drop_sublist ..)
      rw [List.drop_eq_getElem_cons hk] at h4
      have h5 : (L[k].1 :: keysW (L.drop (k + 1))).Nodup := h4
      rw [List.nodup_cons, ha] at h5
      exact h5.1 hm
    rw [h3]
    simp only [lkM, ha, if_true, Option.getD_some] at h2
    simpa using h2
  · simp only [lkM, ha, if_neg (show ¬ ((j : Int) = (a : Int)) from by omega)] at h2
    rw [List.getElem_set_ne (fun h => e h.symm)]; exact h2
theorem InvF.end {N : Nat} {L : List (Int × Int)} {W S : List Int} (v : InvF N L.length L W S) (j : Nat) (h : j < N) (hs : j < S.length) : W[j]'(by have := v.lw; omega) = S[j] := by
  have := v.lk j h hs
  rw [List.drop_length] at this
  exact this
instance decU : Dec encU 1 where
  len _ := rfl
  dec c := match c with
    | [.int .u64 a] => some a
    | _ => none
  ok c x h := by
    revert h
    split
    · intro h; cases h; rfl
    · intro h; cases h
theorem putT_len (T : List (Int × Int)) : ∀ (l : List (Int × Int)), (putT T l).length ≤ T.length + l.length := fun l => by
  induction l generalizing T with
  | nil => exact Nat.le_refl _
  | cons x l ih =>
    have h1 : putT T (x :: l) = putT (upM T x.1 x.2) l := rfl
    have h2 := ih (upM T x.1 x.2)
    have h3 := len_upW T x.1 x.2
    rw [h1, List.length_cons]
    split at h3 <;> omega
theorem del_len (T : List (Int × Int)) (k : Int) : (delM T k).length ≤ T.length := by
  induction T with
  | nil => simp [delM]
  | cons y T ih =>
    unfold delM
    split
    · simp
    · simp only [List.length_cons]; omega
theorem InvS.done' {N : Nat} {T : List (Int × Int)} {W S : List Int} (v : InvS N T W S) {x : Int} (h0 : 0 ≤ x) (h1 : x < N) {w : Int} (hw : lkM T x = some w) : InvS N (delM T x) (W.set x.toNat w) S := by
  obtain ⟨a, rfl⟩ : ∃ a : Nat, x = (a : Int) := ⟨x.toNat, by omega⟩
  rw [Int.toNat_natCast]
  exact v.done (by omega) hw
theorem InvF.next' {N k : Nat} {L : List (Int × Int)} {W S : List Int} (v : InvF N k L W S) (hl : (keysW L).Nodup) (hk : k < L.length) (h0 : 0 ≤ L[k].1) (h1 : L[k].1 < N) : InvF N (k + 1) L (W.set L[k].1.toNat L[k].2) S :=
  v.next hl hk (by omega) (by omega)
theorem list_sl (h : PH) (ab mb : Nat) (T : List (Int × Int)) (hT : T.length ≤ 1000000) : Does Try.prog 18 [ptB ab] (tabR ab mb T) h (Ret fun r R' h' => ∃ L, L.Perm T ∧ R' = tabR ab mb T ∧ Sl encR 2 h' r L) :=
  (list_fn h ab mb T hT).upd fun v R' h' _ ⟨L', hp, hw, e, _⟩ => by
    subst e
    refine (UpdE.row (enc := encR) 0 rfl (lenR _)).mono ?_
    rintro _ h2 - ⟨rfl, hsl⟩
    exact ⟨L', hp, rfl, hsl⟩
def mn (N : Nat) (x : Int) : Nat := ((x.tmod (N : Int) + (N : Int)) % (N : Int)).toNat
theorem mn_in {N : Nat} (hN : 0 < N) (x : Int) : -(N : Int) < x.tmod (N : Int) ∧ x.tmod (N : Int) < (N : Int) := ⟨Int.lt_tmod_of_pos x (by omega), Int.tmod_lt_of_pos x (by omega)⟩
theorem mn_eq {N : Nat} (hN : 0 < N) (x : Int) : (x.tmod (N : Int) + (N : Int)) % (N : Int) = (mn N x : Int) := by
  have := Int.emod_nonneg (x.tmod (N : Int) + (N : Int)) (show (N : Int) ≠ 0 by omega)
  unfold mn; omega
theorem mn_lt {N : Nat} (hN : 0 < N) (x : Int) : mn N x < N := by
  have h1 := mn_eq hN x
  have h2 := Int.emod_lt_of_pos (x.tmod (N : Int) + (N : Int)) (show (0 : Int) < N by omega)
  omega
def mnL (N : Nat) (l : List (Int × Int)) : List (Int × Int) := l.map fun x => ((mn N x.1 : Int), x.2)
theorem mnL_succ {N : Nat} {l : List (Int × Int)} {j : Nat} (hj : j < l.length) : mnL N (l.take (j + 1)) = mnL N (l.take j) ++ [((mn N l[j].1 : Int), l[j].2)] := by
  unfold mnL
  rw [List.take_add_one, List.getElem?_eq_getElem hj, Option.toList_some, List.map_append]; rfl
theorem mnL_neg (N : Nat) (l : List (Int × Int)) : negL (mnL N l) = false := by
  unfold negL mnL
  rw [List.any_eq_false]
  intro x hx
  obtain ⟨y, _, rfl⟩ := List.mem_map.1 hx
  simp
end Go.Proofs.Ytmohiefnoflndaa
