/- Words ahead: lists that are the same; what the table lists. -/
import Derived.Test.YtmohiefnoflndaaAheadC
namespace Go.Proofs.Ytmohiefnoflndaa
set_option maxRecDepth 4000
open Go Go.Par PH
attribute [local irreducible] W WL Does Exec Body Then inBlk RG WR row obj pblk
set_option maxHeartbeats 400000 in
theorem same_fn (h : PH) (l m : List (Int × Int)) (v u : Value) (hv : Sl encR 2 h v l) (hu : Sl encR 2 h u m) (hl : l.length ≤ 1000000) (hm : m.length ≤ 1000000) :
    Does Try.prog 12 [v, u] [] h (Ret fun r _ _ => r = .bool (decide (l = m))) := by
  refine Does_of_W Try.func12 rfl (n := 26) rfl rfl (by simp only [argE, Nat.reduceAdd] <;> rfl) ?_
  by_cases hlen : l.length = m.length
  · (repeat (first | refine W_seq ?_))
    refine W_region rfl ?_
    refine WL_is (X_assign rfl rfl) rfl rfl rfl ?_
    (repeat (first | refine WL_nil ?_ | refine Then_normal ?_ | refine W_seq ?_))
    skip
    refine W_region rfl ?_
    refine WL_is (X_move rfl rfl) rfl rfl rfl ?_
    refine WL_is (X_len_sl rfl rfl rfl (by assumption)) rfl rfl rfl ?_
    refine WL_is (X_move rfl rfl) rfl rfl rfl ?_
    refine WL_is (X_len_sl rfl rfl rfl (by assumption)) rfl rfl rfl ?_
    refine WL_is (X_neq_f rfl rfl rfl (by omega)) rfl rfl rfl ?_
    (repeat (first | refine WL_nil ?_ | refine Then_normal ?_ | refine W_seq ?_ | refine W_skip ?_ | refine W_false rfl ?_))
    skip
    refine W_region rfl ?_
    refine WL_is (X_assign rfl rfl) rfl rfl rfl ?_
    (repeat (first | refine WL_nil ?_ | refine Then_normal ?_ | refine W_block ?_))
    refine W_loop (X := Nat) (L := fun k => ⟨[(5, .int .i64 (k : Int)), (0, v), (1, u)], [], [], h⟩) (p := fun k => k ≤ l.length ∧ ∀ j (hj : j < k) (hj' : j < l.length), l[j] = m[j]'(by omega)) (μ := fun k => l.length - k) 0 ⟨(by repeat (first | exact SubE_nil | refine SubE_cons rfl ?_)), rfl, SubR.refl _, rfl⟩ ⟨Nat.zero_le _, fun j hj => by omega⟩ ?_
    rintro k ⟨hk, hgood⟩
    by_cases hlt : k < l.length
    · have hlt' : k < m.length := by omega
      (repeat (first | refine W_seq ?_))
      refine W_region rfl ?_
      refine WL_is (X_move rfl rfl) rfl rfl rfl ?_
      refine WL_is (X_move rfl rfl) rfl rfl rfl ?_
      refine WL_is (X_len_sl rfl rfl rfl (by assumption)) rfl rfl rfl ?_
      refine WL_is (X_lss_t rfl rfl rfl (by omega)) rfl rfl rfl ?_
      (repeat (first | refine WL_nil ?_ | refine Then_normal ?_ | refine W_seq ?_ | refine W_skip ?_ | refine W_block ?_ | refine W_true rfl ?_))
      by_cases heq : l[k] = m[k]
      · have e1 : l[k].1 = m[k].1 := by rw [heq]
        have e2 : l[k].2 = m[k].2 := by rw [heq]
        have E1 : (!(l[k].1 == m[k].1 && (l[k].2 == m[k].2 && true))) = false := by simp [e1, e2]
        clear e1 e2
        skip
        refine W_draw0 8 rfl rfl rfl rfl ?_
        refine RG_val rfl rfl (fun _ => rfl) (fun _ => X_move rfl rfl) ?_
        refine RG_val rfl rfl (fun _ => rfl) (fun _ => X_move rfl rfl) ?_
        (refine RG_index_slN rfl rfl rfl (fun _ => rfl) (fun _ => rfl) (by assumption) (by omega) rfl rfl (fun _ => rfl) ?_; intro p_ hp_)
        refine RG_val rfl rfl (fun _ => rfl) (fun _ => X_loadA_at rfl rfl (by assumption) rfl rfl rfl) ?_
        refine RG_val rfl rfl (fun _ => rfl) (fun _ => X_move rfl rfl) ?_
        refine RG_val rfl rfl (fun _ => rfl) (fun _ => X_move rfl rfl) ?_
        (refine RG_index_slN rfl rfl rfl (fun _ => rfl) (fun _ => rfl) (by assumption) (by omega) rfl rfl (fun _ => rfl) ?_; intro p_ hp_)
        refine RG_val rfl rfl (fun _ => rfl) (fun _ => X_loadA_at rfl rfl (by assumption) rfl rfl rfl) ?_
        refine RG_nil ?_
        refine RG_endv rfl (fun vs => by simp only [endE, List.cons_append, List.nil_append] <;> rfl) (fun vs => rfl) ?_
        refine WL_is (X_neA 8 heldOk guardOk rfl rfl rfl rfl rfl rfl rfl) rfl rfl rfl ?_
        (repeat (first | refine WL_nil ?_ | refine Then_normal ?_))
        rw [E1]
        (repeat (first | refine Then_normal ?_ | refine W_skip ?_ | refine inBlk_normal ?_ | refine W_false rfl ?_))
        refine W_region rfl ?_
        refine WL_is (X_move rfl rfl) rfl rfl rfl ?_
        refine WL_is (X_addW rfl rfl rfl (by exact wrap_i64_in (by omega) (by omega))) rfl rfl rfl ?_
        refine WL_is (X_assign rfl rfl) rfl rfl rfl ?_
        (repeat (first | refine WL_nil ?_ | refine Then_normal ?_))
        refine ⟨k + 1, ⟨(by repeat (first | exact SubE_nil | refine SubE_cons rfl ?_)), rfl, SubR.refl _, rfl⟩, ⟨by omega, fun j hj hj' => ?_⟩, by omega⟩
        rcases Nat.lt_or_ge j k with hj2 | hj2
        · exact hgood j hj2 hj'
        · have : j = k := by omega
          subst this; exact heq
      · have E1 : (!(l[k].1 == m[k].1 && (l[k].2 == m[k].2 && true))) = true := by
          simp only [Bool.and_true, Bool.not_eq_true']
          cases hb : (l[k].1 == m[k].1 && l[k].2 == m[k].2) with
          | false => rfl
          | true =>
            simp only [Bool.and_eq_true, beq_iff_eq] at hb
            exact absurd (Prod.ext hb.1 hb.2) heq
        skip
        refine W_draw0 8 rfl rfl rfl rfl ?_
        refine RG_val rfl rfl (fun _ => rfl) (fun _ => X_move rfl rfl) ?_
        refine RG_val rfl rfl (fun _ => rfl) (fun _ => X_move rfl rfl) ?_
        (refine RG_index_slN rfl rfl rfl (fun _ => rfl) (fun _ => rfl) (by assumption) (by omega) rfl rfl (fun _ => rfl) ?_; intro p_ hp_)
        refine RG_val rfl rfl (fun _ => rfl) (fun _ => X_loadA_at rfl rfl (by assumption) rfl rfl rfl) ?_
        refine RG_val rfl rfl (fun _ => rfl) (fun _ => X_move rfl rfl) ?_
        refine RG_val rfl rfl (fun _ => rfl) (fun _ => X_move rfl rfl) ?_
        (refine RG_index_slN rfl rfl rfl (fun _ => rfl) (fun _ => rfl) (by assumption) (by omega) rfl rfl (fun _ => rfl) ?_; intro p_ hp_)
        refine RG_val rfl rfl (fun _ => rfl) (fun _ => X_loadA_at rfl rfl (by assumption) rfl rfl rfl) ?_
        refine RG_nil ?_
        refine RG_endv rfl (fun vs => by simp only [endE, List.cons_append, List.nil_append] <;> rfl) (fun vs => rfl) ?_
        refine WL_is (X_neA 8 heldOk guardOk rfl rfl rfl rfl rfl rfl rfl) rfl rfl rfl ?_
        (repeat (first | refine WL_nil ?_ | refine Then_normal ?_))
        rw [E1]
        (repeat (first | refine W_seq ?_ | refine W_true rfl ?_))
        refine W_region rfl ?_
        refine WL_is (X_assign rfl rfl) rfl rfl rfl ?_
        (repeat (first | refine WL_nil ?_ | refine Then_normal ?_ | refine W_ret ?_ | refine Then_ret ?_ | refine inBlk_ret ?_))
        refine Body_end rfl rfl rfl (SubR.none _) ?_
        rw [decide_eq_false]; intro hc; subst hc; exact heq rfl
    · (repeat (first | refine W_seq ?_))
      refine W_region rfl ?_
      refine WL_is (X_move rfl rfl) rfl rfl rfl ?_
      refine WL_is (X_move rfl rfl) rfl rfl rfl ?_
      refine WL_is (X_len_sl rfl rfl rfl (by assumption)) rfl rfl rfl ?_
      refine WL_is (X_lss_f rfl rfl rfl (by omega)) rfl rfl rfl ?_
      (repeat (first | refine WL_nil ?_ | refine Then_normal ?_ | refine W_seq ?_ | refine W_exit ?_ | refine Then_exit ?_ | refine inBlk_here ?_ | refine W_false rfl ?_))
      skip
      refine W_region rfl ?_
      refine WL_is (X_assign rfl rfl) rfl rfl rfl ?_
      (repeat (first | refine WL_nil ?_ | refine Then_normal ?_ | refine W_ret ?_))
      refine Body_end rfl rfl rfl (SubR.none _) ?_
      have hkl : k = l.length := by omega
      subst hkl
      rw [decide_eq_true (List.ext_getElem hlen fun i hi _ => hgood i hi hi)]
  · (repeat (first | refine W_seq ?_))
    refine W_region rfl ?_
    refine WL_is (X_assign rfl rfl) rfl rfl rfl ?_
    (repeat (first | refine WL_nil ?_ | refine Then_normal ?_ | refine W_seq ?_))
    skip
    refine W_region rfl ?_
    refine WL_is (X_move rfl rfl) rfl rfl rfl ?_
    refine WL_is (X_len_sl rfl rfl rfl (by assumption)) rfl rfl rfl ?_
    refine WL_is (X_move rfl rfl) rfl rfl rfl ?_
    refine WL_is (X_len_sl rfl rfl rfl (by assumption)) rfl rfl rfl ?_
    refine WL_is (X_neq_t rfl rfl rfl (by omega)) rfl rfl rfl ?_
    (repeat (first | refine WL_nil ?_ | refine Then_normal ?_ | refine W_seq ?_ | refine W_true rfl ?_))
    skip
    refine W_region rfl ?_
    refine WL_is (X_assign rfl rfl) rfl rfl rfl ?_
    (repeat (first | refine WL_nil ?_ | refine Then_normal ?_ | refine W_ret ?_ | refine Then_ret ?_))
    refine Body_end rfl rfl rfl (SubR.none _) ?_
    rw [decide_eq_false]; intro hc; subst hc; exact hlen rfl
theorem sub_len {α : Type} : ∀ (l1 l2 : List α), l1.Nodup → (∀ a ∈ l1, a ∈ l2) → l1.length ≤ l2.length
  | [], _, _, _ => Nat.zero_le _
  | a :: l, l2, hn, hs => by
    rw [List.nodup_cons] at hn
    obtain ⟨s, t, rfl⟩ := List.append_of_mem (hs a List.mem_cons_self)
    have := sub_len l (s ++ t) hn.2 fun b hb => by
      have h1 := hs b (List.mem_cons_of_mem _ hb)
      rw [List.mem_append, List.mem_cons] at h1
      rw [List.mem_append]
      rcases h1 with h1 | h1 | h1
      · exact .inl h1
      · subst h1; exact absurd hb hn.1
      · exact .inr h1
    simp only [List.length_append, List.length_cons] at this ⊢
    omega
theorem inj_born {l : List MapEntry} (hn : (l.map (·.born)).Nodup) {x e : MapEntry} (hx : x ∈ l) (he : e ∈ l) (hb : x.born = e.born) : x = e := by
  induction l with
  | nil => cases hx
  | cons a l ih =>
    rw [List.map_cons, List.nodup_cons] at hn
    rcases List.mem_cons.1 hx with rfl | hx2
    · rcases List.mem_cons.1 he with rfl | he2
      · rfl
      · exact absurd (List.mem_map.2 ⟨e, he2, hb.symm⟩) hn.1
    · rcases List.mem_cons.1 he with rfl | he2
      · exact absurd (List.mem_map.2 ⟨x, hx2, hb⟩) hn.1
      · exact ih hn.2 hx2 he2
def unI : Value → Int
  | .int _ k => k
  | _ => 0
def unE (e : MapEntry) : Int × Int := (unI e.key, unI e.val)
theorem un_map {es : Array MapEntry} {T : List (Int × Int)} (he : es.toList.map (fun e => (e.key, e.val)) = T.map (fun x => (ekI x.1, evW x.2))) : es.toList.map unE = T := by
  have h := congrArg (fun l => l.map fun p : Value × Value => (unI p.1, unI p.2)) he
  simp only [List.map_map] at h
  have e2 : T.map ((fun p : Value × Value => (unI p.1, unI p.2)) ∘ fun x => (ekI x.1, evW x.2)) = T := by
    conv => rhs; rw [← List.map_id T]
    rfl
  rw [e2] at h
  exact h
theorem un_key {es : Array MapEntry} {T : List (Int × Int)} (he : es.toList.map (fun e => (e.key, e.val)) = T.map (fun x => (ekI x.1, evW x.2))) {e : MapEntry} (h : e ∈ es.toList) : e.key = .int .i64 (unE e).1 ∧ e.val = .int .u64 (unE e).2 := by
  have h1 : (e.key, e.val) ∈ es.toList.map (fun e => (e.key, e.val)) := List.mem_map.2 ⟨e, h, rfl⟩
  rw [he] at h1
  obtain ⟨x, _, hx⟩ := List.mem_map.1 h1
  have hx' := Prod.mk.inj hx
  unfold unE
  rw [← hx'.1, ← hx'.2]
  exact ⟨rfl, rfl⟩
theorem seen_push (vis : List MapEntry) (e : MapEntry) : ((vis.map (·.born)).toArray).push e.born = ((vis ++ [e]).map (·.born)).toArray := by simp
set_option maxHeartbeats 4000000 in
theorem list_fn (h : PH) (ab mb : Nat) (T : List (Int × Int)) (hT : T.length ≤ 1000000) : Does Try.prog 18 [ptB ab] (tabR ab mb T) h (Ret fun r R' h' => ∃ L', L'.Perm T ∧ sortedW L' ∧ R' = rowL encR r 38 2 L' :: tabR ab mb T ∧ h' = h) := by
  unfold tabR ptB
  refine Does_of_W Try.func18 rfl (n := 26) rfl rfl (by simp only [argE] <;> rfl) ?_
  (repeat (first | refine W_seq ?_))
  skip
  refine W_region rfl ?_
  refine WL_is (X_assign rfl rfl) rfl rfl rfl ?_
  (repeat (first | refine WL_nil ?_ | refine Then_normal ?_ | refine W_seq ?_))
  skip
  refine W_region rfl ?_
  refine WL_is (X_move rfl rfl) rfl rfl rfl ?_
  refine WL_is (X_eqPn_f rfl rfl rfl rfl) rfl rfl rfl ?_
  (repeat (first | refine WL_nil ?_ | refine Then_normal ?_ | refine W_seq ?_ | refine W_skip ?_ | refine W_false rfl ?_))
  skip
  refine W_region rfl ?_
  refine WL_is (X_move rfl rfl) rfl rfl rfl ?_
  refine WL_is (X_nilCheck rfl rfl) rfl rfl rfl ?_
  refine WL_is (X_fieldAddr rfl rfl rfl (by simp only [Nat.zero_add] <;> rfl)) rfl rfl rfl ?_
  refine WL_is (X_load1 rfl rfl (by exact idx0) rfl rfl) rfl rfl rfl ?_
  refine WL_updE (UpdE.openB (ek := ekI) (ev := evW) 1 rfl) ?_
  rintro _ h - ⟨rfl, es, c, rfl, hes, hgb⟩
  simp only [List.set_cons_zero, List.set_cons_succ]
  refine WL_range rfl rfl rfl idx1 rfl rfl rfl ?_
  intro r
  refine WL_nil ?_
  have hsz : es.size = T.length := by
    have := congrArg List.length hes
    simpa using this
  (repeat (first | refine Then_normal ?_ | refine W_block ?_))
  refine W_upd (Upd.nilrow (e := 38) (sz := 2)) ?_
  refine W_loop (X := List MapEntry × Value) (L := fun x => ⟨[(2, x.2), (11, .pointer (some ⟨r, 0, none⟩))], [], [rowL encR x.2 38 2 (x.1.map unE), obj r (.mapIter (some mb) c (x.1.map (·.born)).toArray c), blk ab [.map (some mb)] 52, obj mb (.map es c)], h⟩) (p := fun x => (x.1.map (·.born)).Nodup ∧ ∀ e ∈ x.1, e ∈ es.toList) (μ := fun x => es.size - x.1.length) ([], .slice none 0 0) ⟨(by repeat (first | exact SubE_nil | refine SubE_cons rfl ?_)), rfl, SubR.refl _, rfl⟩ ⟨.nil, fun e he => by cases he⟩ ?_
  rintro ⟨vis, v⟩ ⟨hnd, hin⟩
  dsimp only at hnd hin ⊢
  have hndv : vis.Nodup := List.Pairwise.of_map (·.born) (fun a b h e => h (by rw [e])) hnd
  have hlv : vis.length ≤ es.size := by
    have := sub_len vis es.toList hndv hin
    simpa using this
  (repeat (first | refine W_seq ?_))
  refine W_region rfl ?_
  refine WL_next rfl rfl idx1 idx3 hgb rfl rfl rfl ?_ ?_
  · intro hz
    have hall : ∀ e ∈ es.toList, e ∈ vis := fun e he => by
      have h1 : ¬ e ∈ (leftOf es (vis.map (·.born)).toArray).toList := fun h2 => by
        have e0 : (leftOf es (vis.map (·.born)).toArray).toList = [] := List.eq_nil_of_length_eq_zero (by simpa using hz)
        rw [e0] at h2; cases h2
      rw [Go.Par.mem_left] at h1
      have h2 : e.born ∈ vis.map (·.born) := Decidable.byContradiction fun h3 => h1 ⟨he, h3⟩
      obtain ⟨x, hx, hxe⟩ := List.mem_map.1 h2
      have h4 := inj_born hgb.nd (hin x hx) he hxe
      exact h4 ▸ hx
    have hpe : vis.Perm es.toList := (List.perm_ext_iff_of_nodup hndv (List.Pairwise.of_map (·.born) (fun a b h e => h (by rw [e])) hgb.nd)).2 fun a => ⟨hin a, hall a⟩
    have hpT : (vis.map unE).Perm T := by
      have := hpe.map unE
      rwa [un_map hes] at this
    refine WL_is (X_extract rfl rfl rfl) rfl rfl rfl ?_
    (repeat (first | refine WL_nil ?_ | refine Then_normal ?_ | refine W_seq ?_ | refine W_exit ?_ | refine Then_exit ?_ | refine inBlk_here ?_ | refine W_false rfl ?_))
    refine W_upd (Upd.closeB (ek := ekI) (ev := evW) (L := T) 3 rfl hes hgb) ?_
    simp only [List.set_cons_zero, List.set_cons_succ]
    skip
    refine W_region rfl ?_
    refine WL_is (X_move rfl rfl) rfl rfl rfl ?_
    refine WL_callR [rowL encR v 38 2 (vis.map unE)] _ rfl rfl rfl Try.func22 rfl rfl rfl rfl (.refl _) (sort_fn h v _ (by have := hpT.length_eq; omega)) ?_
    rintro _ _ h - ⟨L', hp', hs', rfl, rfl⟩
    refine WL_nil ?_
    (repeat (first | refine Then_normal ?_ | refine W_seq ?_))
    skip
    refine W_region rfl ?_
    refine WL_is (X_move rfl rfl) rfl rfl rfl ?_
    refine WL_is (X_assign rfl rfl) rfl rfl rfl ?_
    (repeat (first | refine WL_nil ?_ | refine Then_normal ?_ | refine W_ret ?_))
    refine Body_vals (.cons (.tmp rfl) .nil) rfl ?_
    exact UpdE.of (Upd.sub (.cons _ (SubR.skip _ (SubR.refl _)))) ⟨L', hp'.trans hpT, hs', rfl, rfl⟩
  · intro e he
    rw [Go.Par.mem_left] at he
    obtain ⟨he, hns⟩ := he
    obtain ⟨hk, hv⟩ := un_key hes he
    rw [hk, hv]
    simp only [List.set_cons_zero, List.set_cons_succ]
    refine WL_is (X_extract rfl rfl rfl) rfl rfl rfl ?_
    (repeat (first | refine WL_nil ?_ | refine Then_normal ?_ | refine W_seq ?_ | refine W_skip ?_ | refine W_block ?_ | refine W_true rfl ?_))
    skip
    refine W_region rfl ?_
    refine WL_is (X_entry rfl rfl idx1 idx3 hgb he) rfl rfl rfl ?_
    rw [hk, hv]
    refine WL_is (X_extract rfl rfl rfl) rfl rfl rfl ?_
    refine WL_is (X_extract rfl rfl rfl) rfl rfl rfl ?_
    refine WL_is (X_assign rfl rfl) rfl rfl rfl ?_
    refine WL_is (X_assign rfl rfl) rfl rfl rfl ?_
    (repeat (first | refine WL_nil ?_ | refine Then_normal ?_))
    skip
    refine W_region rfl ?_
    refine WL_is (X_move rfl rfl) rfl rfl rfl ?_
    refine WL_is (X_move rfl rfl) rfl rfl rfl ?_
    refine WL_is (X_move rfl rfl) rfl rfl rfl ?_
    refine WL_is (X_build rfl rfl rfl) rfl rfl rfl ?_
    refine WL_buildSlice rfl rfl rfl rfl rfl rfl rfl rfl rfl rfl rfl rfl rfl ?_
    intro u
    refine WL_append (enc := encR) (L' := [unE e]) (i := 1) rfl rfl rfl elemR rfl rfl (Src.own (i := 0) (c := encR (unE e)) rfl rfl) (flatR _) (by simp only [List.length_cons, List.length_nil, List.length_map]; omega) (by simp only [List.length_cons, List.length_nil, List.length_map]; omega) rfl rfl rfl ?_
    intro v'
    simp only [List.set_cons_zero, List.set_cons_succ]
    refine WL_is (X_assign rfl rfl) rfl rfl rfl ?_
    (repeat (first | refine WL_nil ?_ | refine Then_normal ?_ | refine inBlk_normal ?_))
    have hlt : vis.length + 1 ≤ es.size := by
      have := sub_len (e :: vis) es.toList (List.nodup_cons.2 ⟨fun h2 => hns (by simpa using ⟨e, h2, rfl⟩), hndv⟩) fun a ha => by
        rcases List.mem_cons.1 ha with rfl | ha
        · exact he
        · exact hin a ha
      simpa using this
    refine ⟨(vis ++ [e], v'), ⟨(by repeat (first | exact SubE_nil | refine SubE_cons rfl ?_)), rfl, SubR.skip _ (SubR.of_perm (by simp only [seen_push, List.map_append, List.map_cons, List.map_nil]; exact .refl _)), rfl⟩, ⟨?_, fun a ha => ?_⟩, by simp only [List.length_append, List.length_cons, List.length_nil]; omega⟩
    · dsimp only
      rw [List.map_append, List.nodup_append]
      refine ⟨hnd, by simp, fun a ha b hb => ?_⟩
      simp only [List.map_cons, List.map_nil, List.mem_singleton] at hb
      rw [hb]; rintro rfl
      exact hns (by simpa using ha)
    · rcases List.mem_append.1 ha with ha | ha
      · exact hin a ha
      · rw [List.mem_singleton] at ha; subst ha; exact he
end Go.Proofs.Ytmohiefnoflndaa
