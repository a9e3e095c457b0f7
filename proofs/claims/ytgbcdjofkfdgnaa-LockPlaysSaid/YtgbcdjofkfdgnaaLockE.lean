/- Locks: what a table does. -/
import Derived.Test.YtgbcdjofkfdgnaaLockD
namespace Go.Proofs.Ytgbcdjofkfdgnaa
open Go Go.Par PH
instance decV : Dec encV 1 where
  len _ := rfl
  dec c := match c with
    | [v] => some v
    | _ => none
  ok c x h := by
    revert h
    split
    · intro h; cases h; rfl
    · intro h; cases h
theorem UpdE.tabL {R : List SL} {h : PH} {t : TypeId} {b : Nat} {qs : List (List Int)} {procs : Int} (i : Nat) (hi : R[i]? = some (tabL t b qs procs)) :
    UpdE R h fun R' h' => h' = h ∧ ∃ v vs, vs.length = qs.length ∧ R' = blk b [v, .int .i64 procs] t :: rowL encV v 40 1 vs :: zipG vs qs :: R.eraseIdx i :=
  UpdE.wkn fun g hg => by
    obtain ⟨a, c, e, hd, ⟨v, vs, hl, hs⟩, hc⟩ := stars_perm (perm_front i hi) hg
    refine ⟨[_, _, _] ++ R.eraseIdx i, ⟨v, vs, hl, rfl⟩, ?_⟩
    rw [e]
    exact stars_app hs hc hd
theorem Upd.tabL {R : List SL} {h : PH} {t : TypeId} {b : Nat} {qs : List (List Int)} {procs : Int} {v : Value} {vs : List Value} (hl : vs.length = qs.length) :
    Go.Par.Upd (blk b [v, .int .i64 procs] t :: rowL encV v 40 1 vs :: zipG vs qs :: R) h (tabL t b qs procs :: R) h := Upd.wkn fun g hg => by
  have hg : stars ([blk b [v, .int .i64 procs] t, rowL encV v 40 1 vs, zipG vs qs] ++ R) g := hg
  obtain ⟨g1, g2, rfl, hd, h1, h2⟩ := stars_append.1 hg
  exact ⟨g1, g2, rfl, hd, ⟨v, vs, hl, h1⟩, h2⟩
def zipH (vs : List Value) (qs : List (List Int)) (k : Nat) : SL := fun g => stars ((zipR vs qs).eraseIdx k) g
theorem zip_at {vs : List Value} {qs : List (List Int)} {k : Nat} (hv : k < vs.length) (hq : k < qs.length) : (zipR vs qs)[k]? = some (rowL encI vs[k] 3 1 qs[k]) := by
  unfold zipR; simp [List.getElem?_zipWith, hv, hq]
theorem Upd.takeZ {R : List SL} {h : PH} {vs : List Value} {qs : List (List Int)} (i k : Nat) (hi : R[i]? = some (zipG vs qs)) (hv : k < vs.length) (hq : k < qs.length) : Go.Par.Upd R h (rowL encI vs[k] 3 1 qs[k] :: zipH vs qs k :: R.eraseIdx i) h := Upd.wkn fun g hg => by
  obtain ⟨a, c, e, hd, ha, hc⟩ := stars_perm (perm_front i hi) hg
  obtain ⟨a1, a2, e2, hd2, h1, h2⟩ := stars_perm (perm_front k (zip_at hv hq)) ha
  subst e2
  have hd' := dj_un_left.1 hd
  exact ⟨a1, un a2 c, by rw [e, un_assoc], dj_un_right.2 ⟨hd2, hd'.1⟩, h1, a2, c, rfl, hd'.2, h2, hc⟩
theorem zip_set {vs : List Value} {qs : List (List Int)} {k : Nat} (v' : Value) (q' : List Int) : zipR (vs.set k v') (qs.set k q') = (zipR vs qs).set k (rowL encI v' 3 1 q') := by
  unfold zipR
  induction vs generalizing qs k with
  | nil => simp
  | cons v vs ih =>
    cases qs with
    | nil => simp
    | cons q qs =>
      cases k with
      | zero => rfl
      | succ k => simp only [List.set_cons_succ, List.zipWith_cons_cons, ih]
theorem erase_set {α : Type _} {L : List α} {k : Nat} {x : α} : (L.set k x).eraseIdx k = L.eraseIdx k := by
  apply List.ext_getElem?
  intro j
  simp only [List.getElem?_eraseIdx]
  split
  · rw [List.getElem?_set_ne (by omega)]
  · rw [List.getElem?_set_ne (by omega)]
theorem Upd.putZ {R : List SL} {h : PH} {vs : List Value} {qs : List (List Int)} {k : Nat} {v' : Value} {q' : List Int} (hv : k < vs.length) (hq : k < qs.length) : Go.Par.Upd (rowL encI v' 3 1 q' :: zipH vs qs k :: R) h (zipG (vs.set k v') (qs.set k q') :: R) h := Upd.wkn fun g hg => by
  obtain ⟨a, c, e, hd, ha, c1, c2, e2, hd2, h1, h2⟩ := hg
  subst e2
  have hd' := dj_un_right.1 hd
  refine ⟨un a c1, c2, by rw [e, un_assoc], dj_un_left.2 ⟨hd'.2, hd2⟩, ?_, h2⟩
  have h3 : (zipR (vs.set k v') (qs.set k q'))[k]? = some (rowL encI v' 3 1 q') := by
    rw [zip_set, List.getElem?_set_self]
    have := zip_at hv hq
    exact idx_lt this
  have hp := perm_front k h3
  rw [zip_set, erase_set, ← zip_set] at hp
  exact stars_perm hp.symm ⟨a, c1, rfl, hd'.1, ha, h1⟩
theorem QOk.keep {qs : List (List Int)} (ok : QOk qs) (p : Int) : QOk (qs.map (keep · p)) := ⟨by simpa using ok.small, fun q hq => by
  simp only [List.mem_map] at hq
  obtain ⟨r, hr, rfl⟩ := hq
  exact Nat.le_trans (keep_len r p) (ok.short r hr)⟩
def freeQ (qs : List (List Int)) (procs p : Int) : List (List Int) := if mayE procs p = 0 then qs.map (keep · p) else qs
structure FX where
  k : Nat
  vs : List Value
  h : PH
attribute [local irreducible] W WL Does Exec Body Then inBlk RG WR row obj pblk
set_option maxHeartbeats 2000000 in
theorem free_fn (h : PH) (b : Nat) (qs : List (List Int)) (procs p : Int) (ok : QOk qs) : Does Try.prog 11 [.pointer (some ⟨b, 0, none⟩), .int .i64 p] [tabL 49 b qs procs] h
    (Ret fun r R' _ => r = .int .i64 (mayE procs p) ∧ R' = [tabL 49 b (freeQ qs procs p) procs]) := by
  have hmay := fun h => lend (t := 49) (b := b) (procs := procs) (h := h) ok (fun h v vs K => may_fn h b v vs qs procs p K)
  unfold freeQ
  refine Does_of_W Try.func11 rfl (n := 34) rfl rfl (by simp only [argE, Nat.reduceAdd] <;> rfl) ?_
  (repeat (first | refine W_seq ?_))
  skip
  refine W_region rfl ?_
  (refine WL_box rfl rfl rfl rfl rfl rfl ?_; intro b_)
  refine WL_is (X_assign rfl rfl) rfl rfl rfl ?_
  (repeat (first | refine WL_nil ?_ | refine Then_normal ?_ | refine W_seq ?_))
  skip
  refine W_region rfl ?_
  refine WL_is (X_move rfl rfl) rfl rfl rfl ?_
  refine WL_is (X_load1 rfl rfl (by exact idx0) rfl rfl) rfl rfl rfl ?_
  refine WL_callR [_] _ rfl rfl rfl Try.func22 rfl rfl rfl rfl (perm_front 1 rfl) (hmay h) ?_
  rintro r _ h1 hl1 ⟨_, rfl, rfl, rfl⟩
  simp only [List.cons_append, List.nil_append, List.eraseIdx_cons_zero]
  generalize b_ = pb
  by_cases hm : mayE procs p = 0
  · simp only [hm, if_true]
    have hsm := ok.small
    refine WL_updE (UpdE.tabL 0 rfl) ?_
    rintro _ h1 - ⟨rfl, v, vs, hvl, rfl⟩
    refine WL_updE (UpdE.shapeL 1 rfl) ?_
    rintro _ h1 - ⟨rfl, rfl, a, cap, rfl⟩
    simp only [List.eraseIdx_cons_zero]
    refine WL_is (X_assign rfl rfl) rfl rfl rfl ?_
    (repeat (first | refine WL_nil ?_ | refine Then_normal ?_ | refine W_seq ?_))
    skip
    refine W_region rfl ?_
    refine WL_is (X_move rfl rfl) rfl rfl rfl ?_
    refine WL_is (X_neq_f rfl rfl rfl (by omega)) rfl rfl rfl ?_
    (repeat (first | refine WL_nil ?_ | refine Then_normal ?_ | refine W_seq ?_ | refine W_skip ?_ | refine W_false rfl ?_))
    skip
    refine W_region rfl ?_
    refine WL_is (X_move rfl rfl) rfl rfl rfl ?_
    refine WL_is (X_nilCheck rfl rfl) rfl rfl rfl ?_
    refine WL_is (X_fieldAddr rfl rfl rfl (by simp only [Nat.zero_add] <;> rfl)) rfl rfl rfl ?_
    refine WL_is (X_load1 rfl rfl (by exact idx0) rfl rfl) rfl rfl rfl ?_
    refine WL_is (X_len rfl rfl rfl) rfl rfl rfl ?_
    refine WL_is (X_move rfl rfl) rfl rfl rfl ?_
    (repeat (first | refine WL_nil ?_ | refine Then_normal ?_ | refine W_block ?_))
    have hkeepl : ∀ k, ((qs.take k).map (keep · p) ++ qs.drop k).length = qs.length := fun k => by simp; omega
    refine W_loop (X := FX) (L := fun x => ⟨[(19, .int .i64 (x.k : Int)), (18, .int .i64 (vs.length : Int)), (17, .slice a vs.length cap), (0, .pointer (some ⟨b, 0, none⟩)), (3, .pointer (some ⟨pb, 0, none⟩))], [],
        [blk b [.slice a vs.length cap, .int .i64 procs] 49, rowL encV (.slice a vs.length cap) 40 1 x.vs, zipG x.vs ((qs.take x.k).map (keep · p) ++ qs.drop x.k), blk pb [.int .i64 p] 3], x.h⟩)
      (p := fun x => x.k ≤ qs.length ∧ x.vs.length = vs.length) (μ := fun x => qs.length - x.k) ⟨0, vs, h1⟩ ⟨(by repeat (first | exact SubE_nil | refine SubE_cons rfl ?_)), rfl, SubR.refl _, rfl⟩ ⟨Nat.zero_le _, rfl⟩ ?_
    rintro ⟨k, vs', h2⟩ ⟨hk, hvl'⟩
    dsimp only at hk hvl' ⊢
    by_cases hlt : k < qs.length
    · have hkl := hkeepl k
      have hkv : k < vs'.length := by omega
      have hget : ((qs.take k).map (keep · p) ++ qs.drop k)[k]'(by omega) = qs[k] := by
        rw [List.getElem_append_right (by simp; omega)]
        simp; congr 1; omega
      refine W_updE (UpdE.shapePos 1 rfl (by omega)) ?_
      rintro _ h2 - ⟨rfl, rfl, rb, rfl⟩
      refine W_upd (Upd.takeZ 2 k rfl hkv (by omega)) ?_
      rw [hget]
      simp only [List.eraseIdx_cons_succ, List.eraseIdx_cons_zero]
      refine W_updE (UpdE.shapeL 0 rfl) ?_
      rintro _ h2 - ⟨rfl, rfl, a2, cap2, hvk⟩
      (repeat (first | refine W_seq ?_))
      refine W_region rfl ?_
      refine WL_is (X_lss_t rfl rfl rfl (by omega)) rfl rfl rfl ?_
      (repeat (first | refine WL_nil ?_ | refine Then_normal ?_ | refine W_seq ?_ | refine W_skip ?_ | refine W_block ?_ | refine W_true rfl ?_))
      skip
      refine W_region rfl ?_
      refine WL_is (X_move rfl rfl) rfl rfl rfl ?_
      refine WL_is (X_index_row rfl rfl (by exact idx3) rfl rfl rfl (by omega)) rfl rfl rfl ?_
      refine WL_is (X_load_spot rfl rfl (by exact idx3) (by omega) rfl (by omega) rfl) rfl rfl rfl ?_
      refine WL_is (X_assign rfl rfl) rfl rfl rfl ?_
      refine WL_is (X_assign rfl rfl) rfl rfl rfl ?_
      (repeat (first | refine WL_nil ?_ | refine Then_normal ?_))
      rw [hvk]
      skip
      refine W_draw 8 _ [] [zipH vs' ((qs.take k).map (keep · p) ++ qs.drop k) k, blk b [.slice (some ⟨rb, 0, none⟩) vs.length cap, .int .i64 procs] 49, rowL encV (.slice (some ⟨rb, 0, none⟩) vs.length cap) 40 1 vs'] rfl rfl rfl (SubE.refl _) rfl ?_
      refine RG_val rfl rfl (fun _ => rfl) (fun _ => X_move rfl rfl) ?_
      refine RG_val rfl rfl (fun _ => rfl) (fun _ => X_nilCheck rfl rfl) ?_
      refine RG_val rfl rfl (fun _ => rfl) (fun _ => X_fieldAddr rfl rfl rfl (by simp only [Nat.zero_add] <;> rfl)) ?_
      refine RG_val rfl rfl (fun _ => rfl) (fun _ => X_load1 rfl rfl (by exact idx1) rfl rfl) ?_
      refine RG_val rfl rfl (fun _ => rfl) (fun _ => X_move rfl rfl) ?_
      refine RG_val rfl rfl (fun _ => rfl) (fun _ => X_move rfl rfl) ?_
      refine RG_val rfl rfl (fun _ => rfl) (fun _ => X_makeFunc rfl rfl rfl) ?_
      refine RG_call (.opq (fun _ _ => True) [rowL encI (.slice a2 qs[k].length cap2) 3 1 qs[k], blk pb [.int .i64 p] 3] (fun r => [rowL encI r 3 1 (keep qs[k] p), blk pb [.int .i64 p] 3])) [] _ (fun _ _ _ _ _ => trivial) rfl (fun _ => rfl) (fun _ => rfl) Try.func23 rfl rfl rfl (fun _ => rfl) (.refl _) (fun _ h' _ _ => (deleteFunc_fn h' pb a2 cap2 qs[k] p (ok.short _ (List.getElem_mem hlt))).wkn (fun r R' h'' _ e => ⟨trivial, by rw [e]; exact SubR.refl _⟩)) ?_
      refine RG_nil ?_
      refine RG_endC ((perm_front 4 rfl).trans ((List.Perm.swap _ _ _))) (fun vs => by simp only [endE, List.cons_append, List.nil_append] <;> rfl) (fun vs => by simp only [endR, List.cons_append, List.nil_append, List.append_nil] <;> rfl) (fun vs h' hf => hf) ?_
      rintro ws h3 hl3 -
      simp only [Nat.zero_add, Nat.reduceAdd]
      generalize ws 7 = r
      refine WL_updE (UpdE.shapeL 0 rfl) ?_
      rintro _ h3 - ⟨rfl, rfl, a3, cap3, rfl⟩
      refine WL_upd (Upd.sub (SubR.of_perm ((List.Perm.swap _ _ _).cons _))) ?_
      refine WL_upd (Upd.putZ hkv (by omega)) ?_
      refine WL_is (X_index_row rfl rfl (by exact idx3) rfl rfl rfl (by omega)) rfl rfl rfl ?_
      refine WL_store_spot rfl rfl rfl (by exact idx3) (by omega) rfl rfl rfl rfl rfl (by omega) rfl rfl rfl rfl ?_
      (repeat (first | refine WL_nil ?_ | refine Then_normal ?_ | refine inBlk_normal ?_))
      skip
      refine W_region rfl ?_
      refine WL_is (X_addW rfl rfl rfl (by exact wrap_i64_in (by omega) (by omega))) rfl rfl rfl ?_
      refine WL_is (X_move rfl rfl) rfl rfl rfl ?_
      (repeat (first | refine WL_nil ?_ | refine Then_normal ?_))
      refine ⟨⟨k + 1, vs'.set k (.slice a3 (keep qs[k] p).length cap3), h3⟩, ?_, ⟨by dsimp only; omega, by simpa using hvl'⟩, by dsimp only; omega⟩
      have hq2 : ((qs.take k).map (keep · p) ++ qs.drop k).set k (keep qs[k] p) = (qs.take (k + 1)).map (keep · p) ++ qs.drop (k + 1) := by
        rw [List.set_append_right _ _ (by simp; omega), List.drop_eq_getElem_cons hlt]
        have : k - ((qs.take k).map (keep · p)).length = 0 := by simp; omega
        rw [this, List.set_cons_zero, List.take_succ_eq_append_getElem hlt, List.map_append]; simp
      rw [hq2]
      exact ⟨(by repeat (first | exact SubE_nil | refine SubE_cons rfl ?_)), rfl, SubR.trans (SubR.of_perm (perm_front 2 rfl)) (SubR.cons _ (SubR.trans (SubR.of_perm (perm_front 2 rfl)) (SubR.cons _ (SubR.refl _)))), rfl⟩
    · have hkq : k = qs.length := by omega
      subst hkq
      simp only [List.take_length, List.drop_length, List.append_nil]
      (repeat (first | refine W_seq ?_))
      refine W_region rfl ?_
      refine WL_is (X_lss_f rfl rfl rfl (by omega)) rfl rfl rfl ?_
      (repeat (first | refine WL_nil ?_ | refine Then_normal ?_ | refine W_seq ?_ | refine W_exit ?_ | refine Then_exit ?_ | refine inBlk_here ?_ | refine W_false rfl ?_))
      skip
      refine W_region rfl ?_
      refine WL_is (X_assign rfl rfl) rfl rfl rfl ?_
      (repeat (first | refine WL_nil ?_ | refine Then_normal ?_ | refine W_ret ?_))
      refine Body_vals (.cons (.tmp rfl) .nil) rfl ?_
      rw [← hvl'] 
      refine (UpdE.of (A := fun R' _ => R' = _) (Upd.tabL (by simp; omega)) rfl).then ?_
      rintro _ h4 - rfl
      exact UpdE.sub (SubR.cons _ (SubR.none _)) ⟨rfl, rfl⟩
  · simp only [hm, if_false]
    have hm2 : mayE procs p = 2 := by unfold mayE at *; split at hm <;> simp_all
    rw [hm2]
    refine WL_is (X_assign rfl rfl) rfl rfl rfl ?_
    (repeat (first | refine WL_nil ?_ | refine Then_normal ?_ | refine W_seq ?_))
    skip
    refine W_region rfl ?_
    refine WL_is (X_move rfl rfl) rfl rfl rfl ?_
    refine WL_is (X_neq_t rfl rfl rfl (by omega)) rfl rfl rfl ?_
    (repeat (first | refine WL_nil ?_ | refine Then_normal ?_ | refine W_seq ?_ | refine W_true rfl ?_))
    skip
    refine W_region rfl ?_
    refine WL_is (X_move rfl rfl) rfl rfl rfl ?_
    refine WL_is (X_assign rfl rfl) rfl rfl rfl ?_
    (repeat (first | refine WL_nil ?_ | refine Then_normal ?_ | refine W_ret ?_ | refine Then_ret ?_))
    exact Body_end rfl rfl rfl (SubR.cons _ (SubR.none _)) ⟨rfl, rfl⟩
end Go.Proofs.Ytgbcdjofkfdgnaa
