/- Values under keys: set, asked, taken away; as the chapter does it. -/
import Derived.Test.YtakdjabamjgcfaaXattrD
namespace Go.Proofs.Ytakdjabamjgcfaa
set_option maxRecDepth 4000
open Go Go.Par PH
def thereX (l : Xs) (k : ByteArray) : Int := if mayX l = true then (if keyE k = 0 then (if isX l k = true then 0 else 661) else keyE k) else 622
def valX (l : Xs) (k : ByteArray) : ByteArray := if thereX l k = 0 then (getX l k).getD ⟨#[]⟩ else ⟨#[]⟩
def remL (l : Xs) (k : ByteArray) : Xs := if thereX l k = 0 then delX l k else []
def setE (l : Xs) (k v : ByteArray) (how : Int) : Int :=
  if mayX l = true ∧ how ≤ 2 then (if keyE k = 0 then (if (16 : Int) < v.size then 634 else if isX l k = true then (if how = 1 then 617 else 0) else if how = 2 then 661 else if l.length = 4 then 628 else 0) else keyE k) else 622
def setL (l : Xs) (k v : ByteArray) (how : Int) : Xs := if setE l k v how = 0 then insX l k v else []
theorem at_X {l : Xs} {k : ByteArray} (hs : srt l) (hx : isX l k = true) : ∃ hi : lbX l k < l.length, l[lbX l k].1 = k := by
  have hat := isX_at (k := k) hs
  rw [hx] at hat
  rcases Nat.lt_or_ge (lbX l k) l.length with hi | hi
  · refine ⟨hi, ?_⟩
    rw [List.getElem?_eq_getElem hi] at hat
    simpa [eqX] using hat.symm
  · rw [List.getElem?_eq_none hi] at hat
    cases hat
theorem getX_at {l : Xs} {k : ByteArray} (hs : srt l) (hi : lbX l k < l.length) (he : l[lbX l k].1 = k) : getX l k = some l[lbX l k].2 := by
  induction l with
  | nil => simp at hi
  | cons x l ih =>
    by_cases h : ltK x.1 k = true
    · have hne : ¬ x.1 = k := fun e => by rw [e, ltK_irrefl] at h; cases h
      have e := lbX_t (l := l) h
      simp only [e, List.getElem_cons_succ] at he ⊢
      rw [e] at hi
      simp only [getX, if_neg hne]
      exact ih hs.2 (by simpa using hi) he
    · have e := lbX_f (l := l) h
      simp only [e, List.getElem_cons_zero] at he ⊢
      simp only [getX, if_pos he]
theorem getX_none {l : Xs} {k : ByteArray} (hx : isX l k = false) : getX l k = none := by
  induction l with
  | nil => rfl
  | cons x l ih =>
    simp only [isX, List.any_cons, Bool.or_eq_false_iff, decide_eq_false_iff_not] at hx
    simp only [getX, if_neg hx.1]
    exact ih hx.2
attribute [local irreducible] W WL Does Exec Body Then inBlk RG WR row obj pblk
set_option maxHeartbeats 400000 in
theorem there_fn (h : PH) (l : Xs) (v : Value) (k : ByteArray) (hv : Sl encX 2 h v l) (ht : tameX l) :
    Does Try.prog 27 [v, .string k] [] h (Ret fun r _ _ => r = .tuple #[.int .i64 (if thereX l k = 0 then (lbX l k : Int) else 0), .int .i64 (thereX l k)]) := by
  have hmf := mayX_fn h l v hv ht
  have hkf := key_fn h k
  have hl := ht.len
  unfold thereX
  refine Does_of_W Try.func27 rfl (n := 27) rfl rfl (by simp only [argE, Nat.reduceAdd] <;> rfl) ?_
  cases hm : mayX l with
  | false =>
    rw [hm, if_neg (by decide)] at hmf
    (repeat (first | refine W_seq ?_))
    refine W_region rfl ?_
    refine WL_is (X_assign rfl rfl) rfl rfl rfl ?_
    refine WL_is (X_assign rfl rfl) rfl rfl rfl ?_
    (repeat (first | refine WL_nil ?_ | refine Then_normal ?_ | refine W_seq ?_))
    skip
    refine W_region rfl ?_
    refine WL_is (X_move rfl rfl) rfl rfl rfl ?_
    refine WL_is (X_callv rfl rfl rfl Try.func22 rfl (by assumption)) rfl rfl rfl ?_
    refine WL_is (X_move rfl rfl) rfl rfl rfl ?_
    refine WL_is (X_callv rfl rfl rfl Try.func12 rfl (by assumption)) rfl rfl rfl ?_
    refine WL_buildSl (enc := encE) [622, keyE k] (lenE _) rfl rfl rfl rfl rfl rfl rfl rfl rfl rfl rfl rfl rfl rfl rfl ?_
    intro w H1 M1 hw
    have ho := or_fn H1 622 (keyE k) w hw
    rw [if_neg (by decide)] at ho
    refine WL_is (X_callv rfl rfl rfl Try.func21 rfl (by assumption)) rfl rfl rfl ?_
    refine WL_is (X_assign rfl rfl) rfl rfl rfl ?_
    (repeat (first | refine WL_nil ?_ | refine Then_normal ?_ | refine W_seq ?_))
    skip
    refine W_region rfl ?_
    refine WL_is (X_move rfl rfl) rfl rfl rfl ?_
    refine WL_is (X_neq_t rfl rfl rfl (by omega)) rfl rfl rfl ?_
    (repeat (first | refine WL_nil ?_ | refine Then_normal ?_ | refine W_seq ?_ | refine W_true rfl ?_))
    skip
    refine W_region rfl ?_
    refine WL_is (X_move rfl rfl) rfl rfl rfl ?_
    refine WL_is (X_assign rfl rfl) rfl rfl rfl ?_
    refine WL_is (X_assign rfl rfl) rfl rfl rfl ?_
    (repeat (first | refine WL_nil ?_ | refine Then_normal ?_ | refine W_ret ?_ | refine Then_ret ?_))
    refine Body_end rfl rfl rfl (SubR.none _) ?_
    rfl
  | true =>
    rw [hm, if_pos rfl] at hmf
    have hs := srt_of_may hm
    (repeat (first | refine W_seq ?_))
    refine W_region rfl ?_
    refine WL_is (X_assign rfl rfl) rfl rfl rfl ?_
    refine WL_is (X_assign rfl rfl) rfl rfl rfl ?_
    (repeat (first | refine WL_nil ?_ | refine Then_normal ?_ | refine W_seq ?_))
    skip
    refine W_region rfl ?_
    refine WL_is (X_move rfl rfl) rfl rfl rfl ?_
    refine WL_is (X_callv rfl rfl rfl Try.func22 rfl (by assumption)) rfl rfl rfl ?_
    refine WL_is (X_move rfl rfl) rfl rfl rfl ?_
    refine WL_is (X_callv rfl rfl rfl Try.func12 rfl (by assumption)) rfl rfl rfl ?_
    refine WL_buildSl (enc := encE) [0, keyE k] (lenE _) rfl rfl rfl rfl rfl rfl rfl rfl rfl rfl rfl rfl rfl rfl rfl ?_
    intro w H1 M1 hw
    have ho := or_fn H1 0 (keyE k) w hw
    rw [if_pos rfl] at ho
    by_cases hk : keyE k = 0
    · have hf := find_fn H1 l v k (hv.mono M1) (by omega) hs
      cases hx : isX l k with
      | true =>
        rw [hx] at hf
        refine WL_is (X_callv rfl rfl rfl Try.func21 rfl (by assumption)) rfl rfl rfl ?_
        refine WL_is (X_assign rfl rfl) rfl rfl rfl ?_
        (repeat (first | refine WL_nil ?_ | refine Then_normal ?_ | refine W_seq ?_))
        skip
        refine W_region rfl ?_
        refine WL_is (X_move rfl rfl) rfl rfl rfl ?_
        refine WL_is (X_neq_f rfl rfl rfl (by omega)) rfl rfl rfl ?_
        (repeat (first | refine WL_nil ?_ | refine Then_normal ?_ | refine W_seq ?_ | refine W_skip ?_ | refine W_false rfl ?_))
        skip
        refine W_region rfl ?_
        refine WL_is (X_move rfl rfl) rfl rfl rfl ?_
        refine WL_is (X_move rfl rfl) rfl rfl rfl ?_
        refine WL_is (X_callv rfl rfl rfl Try.func23 rfl (by assumption)) rfl rfl rfl ?_
        refine WL_is (X_move rfl rfl) rfl rfl rfl ?_
        refine WL_is (X_extract rfl rfl rfl) rfl rfl rfl ?_
        refine WL_is (X_extract rfl rfl rfl) rfl rfl rfl ?_
        refine WL_is (X_assign rfl rfl) rfl rfl rfl ?_
        refine WL_is (X_assign rfl rfl) rfl rfl rfl ?_
        (repeat (first | refine WL_nil ?_ | refine Then_normal ?_ | refine W_seq ?_))
        skip
        refine W_region rfl ?_
        refine WL_is (X_move rfl rfl) rfl rfl rfl ?_
        refine WL_is (X_not rfl rfl) rfl rfl rfl ?_
        (repeat (first | refine WL_nil ?_ | refine Then_normal ?_ | refine W_seq ?_ | refine W_skip ?_ | refine W_false rfl ?_))
        skip
        refine W_region rfl ?_
        refine WL_is (X_move rfl rfl) rfl rfl rfl ?_
        refine WL_is (X_assign rfl rfl) rfl rfl rfl ?_
        refine WL_is (X_assign rfl rfl) rfl rfl rfl ?_
        (repeat (first | refine WL_nil ?_ | refine Then_normal ?_ | refine W_ret ?_))
        refine Body_end rfl rfl rfl (SubR.none _) ?_
        simp [hk]
      | false =>
        rw [hx] at hf
        refine WL_is (X_callv rfl rfl rfl Try.func21 rfl (by assumption)) rfl rfl rfl ?_
        refine WL_is (X_assign rfl rfl) rfl rfl rfl ?_
        (repeat (first | refine WL_nil ?_ | refine Then_normal ?_ | refine W_seq ?_))
        skip
        refine W_region rfl ?_
        refine WL_is (X_move rfl rfl) rfl rfl rfl ?_
        refine WL_is (X_neq_f rfl rfl rfl (by omega)) rfl rfl rfl ?_
        (repeat (first | refine WL_nil ?_ | refine Then_normal ?_ | refine W_seq ?_ | refine W_skip ?_ | refine W_false rfl ?_))
        skip
        refine W_region rfl ?_
        refine WL_is (X_move rfl rfl) rfl rfl rfl ?_
        refine WL_is (X_move rfl rfl) rfl rfl rfl ?_
        refine WL_is (X_callv rfl rfl rfl Try.func23 rfl (by assumption)) rfl rfl rfl ?_
        refine WL_is (X_move rfl rfl) rfl rfl rfl ?_
        refine WL_is (X_extract rfl rfl rfl) rfl rfl rfl ?_
        refine WL_is (X_extract rfl rfl rfl) rfl rfl rfl ?_
        refine WL_is (X_assign rfl rfl) rfl rfl rfl ?_
        refine WL_is (X_assign rfl rfl) rfl rfl rfl ?_
        (repeat (first | refine WL_nil ?_ | refine Then_normal ?_ | refine W_seq ?_))
        skip
        refine W_region rfl ?_
        refine WL_is (X_move rfl rfl) rfl rfl rfl ?_
        refine WL_is (X_not rfl rfl) rfl rfl rfl ?_
        (repeat (first | refine WL_nil ?_ | refine Then_normal ?_ | refine W_seq ?_ | refine W_true rfl ?_))
        skip
        refine W_region rfl ?_
        refine WL_is (X_assign rfl rfl) rfl rfl rfl ?_
        refine WL_is (X_assign rfl rfl) rfl rfl rfl ?_
        (repeat (first | refine WL_nil ?_ | refine Then_normal ?_ | refine W_ret ?_ | refine Then_ret ?_))
        refine Body_end rfl rfl rfl (SubR.none _) ?_
        simp [hk]
    · refine WL_is (X_callv rfl rfl rfl Try.func21 rfl (by assumption)) rfl rfl rfl ?_
      refine WL_is (X_assign rfl rfl) rfl rfl rfl ?_
      (repeat (first | refine WL_nil ?_ | refine Then_normal ?_ | refine W_seq ?_))
      skip
      refine W_region rfl ?_
      refine WL_is (X_move rfl rfl) rfl rfl rfl ?_
      refine WL_is (X_neq_t rfl rfl rfl (by omega)) rfl rfl rfl ?_
      (repeat (first | refine WL_nil ?_ | refine Then_normal ?_ | refine W_seq ?_ | refine W_true rfl ?_))
      skip
      refine W_region rfl ?_
      refine WL_is (X_move rfl rfl) rfl rfl rfl ?_
      refine WL_is (X_assign rfl rfl) rfl rfl rfl ?_
      refine WL_is (X_assign rfl rfl) rfl rfl rfl ?_
      (repeat (first | refine WL_nil ?_ | refine Then_normal ?_ | refine W_ret ?_ | refine Then_ret ?_))
      refine Body_end rfl rfl rfl (SubR.none _) ?_
      simp [hk]
theorem get_fn (h : PH) (l : Xs) (v : Value) (k : ByteArray) (hv : Sl encX 2 h v l) (ht : tameX l) :
    Does Try.prog 14 [v, .string k] [] h (Ret fun r _ _ => r = .tuple #[.string (valX l k), .int .i64 (thereX l k)]) := by
  have hf := there_fn h l v k hv ht
  have hl := ht.len
  obtain ⟨va, vc, rfl⟩ := hv.shape
  unfold valX
  refine Does_of_W Try.func14 rfl (n := 22) rfl rfl (by simp only [argE, Nat.reduceAdd] <;> rfl) ?_
  by_cases h0 : thereX l k = 0
  · rw [h0, if_pos rfl] at hf
    rw [h0, if_pos rfl]
    have hm : mayX l = true := by unfold thereX at h0; split at h0 <;> first | assumption | (exact absurd h0 (by decide))
    have hx : isX l k = true := by
      unfold thereX at h0; rw [if_pos hm] at h0
      split at h0
      · split at h0 <;> first | assumption | (exact absurd h0 (by decide))
      · contradiction
    have hs := srt_of_may hm
    obtain ⟨hi, he⟩ := at_X hs hx
    have hg := getX_at hs hi he
    (repeat (first | refine W_seq ?_))
    skip
    refine W_region rfl ?_
    refine WL_is (X_assign rfl rfl) rfl rfl rfl ?_
    refine WL_is (X_assign rfl rfl) rfl rfl rfl ?_
    (repeat (first | refine WL_nil ?_ | refine Then_normal ?_ | refine W_seq ?_))
    skip
    refine W_region rfl ?_
    refine WL_is (X_move rfl rfl) rfl rfl rfl ?_
    refine WL_is (X_move rfl rfl) rfl rfl rfl ?_
    refine WL_is (X_callv rfl rfl rfl Try.func27 rfl (by assumption)) rfl rfl rfl ?_
    refine WL_is (X_move rfl rfl) rfl rfl rfl ?_
    refine WL_is (X_extract rfl rfl rfl) rfl rfl rfl ?_
    refine WL_is (X_extract rfl rfl rfl) rfl rfl rfl ?_
    refine WL_is (X_assign rfl rfl) rfl rfl rfl ?_
    refine WL_is (X_assign rfl rfl) rfl rfl rfl ?_
    (repeat (first | refine WL_nil ?_ | refine Then_normal ?_ | refine W_seq ?_))
    skip
    refine W_region rfl ?_
    refine WL_is (X_move rfl rfl) rfl rfl rfl ?_
    refine WL_is (X_neq_f rfl rfl rfl (by omega)) rfl rfl rfl ?_
    (repeat (first | refine WL_nil ?_ | refine Then_normal ?_ | refine W_seq ?_ | refine W_skip ?_ | refine W_false rfl ?_))
    skip
    refine W_region rfl ?_
    refine WL_is (X_move rfl rfl) rfl rfl rfl ?_
    refine WL_is (X_move rfl rfl) rfl rfl rfl ?_
    (refine WL_index_slN rfl rfl rfl rfl rfl (by assumption) (by omega) rfl rfl rfl ?_; intro p_ hp_)
    (refine WL_fieldAddr_at rfl rfl (by assumption) rfl rfl rfl rfl ?_; intro p_ hp_)
    refine WL_is (X_load1_at rfl rfl (by assumption) rfl rfl) rfl rfl rfl ?_
    refine WL_is (X_assign rfl rfl) rfl rfl rfl ?_
    refine WL_is (X_assign rfl rfl) rfl rfl rfl ?_
    (repeat (first | refine WL_nil ?_ | refine Then_normal ?_ | refine W_ret ?_))
    refine Body_end rfl rfl rfl (SubR.none _) ?_
    rw [hg]; rfl
  · rw [if_neg h0] at hf
    rw [if_neg h0]
    (repeat (first | refine W_seq ?_))
    skip
    refine W_region rfl ?_
    refine WL_is (X_assign rfl rfl) rfl rfl rfl ?_
    refine WL_is (X_assign rfl rfl) rfl rfl rfl ?_
    (repeat (first | refine WL_nil ?_ | refine Then_normal ?_ | refine W_seq ?_))
    skip
    refine W_region rfl ?_
    refine WL_is (X_move rfl rfl) rfl rfl rfl ?_
    refine WL_is (X_move rfl rfl) rfl rfl rfl ?_
    refine WL_is (X_callv rfl rfl rfl Try.func27 rfl (by assumption)) rfl rfl rfl ?_
    refine WL_is (X_move rfl rfl) rfl rfl rfl ?_
    refine WL_is (X_extract rfl rfl rfl) rfl rfl rfl ?_
    refine WL_is (X_extract rfl rfl rfl) rfl rfl rfl ?_
    refine WL_is (X_assign rfl rfl) rfl rfl rfl ?_
    refine WL_is (X_assign rfl rfl) rfl rfl rfl ?_
    (repeat (first | refine WL_nil ?_ | refine Then_normal ?_ | refine W_seq ?_))
    skip
    refine W_region rfl ?_
    refine WL_is (X_move rfl rfl) rfl rfl rfl ?_
    refine WL_is (X_neq_t rfl rfl rfl (by omega)) rfl rfl rfl ?_
    (repeat (first | refine WL_nil ?_ | refine Then_normal ?_ | refine W_seq ?_ | refine W_true rfl ?_))
    skip
    refine W_region rfl ?_
    refine WL_is (X_move rfl rfl) rfl rfl rfl ?_
    refine WL_is (X_assign rfl rfl) rfl rfl rfl ?_
    refine WL_is (X_assign rfl rfl) rfl rfl rfl ?_
    (repeat (first | refine WL_nil ?_ | refine Then_normal ?_ | refine W_ret ?_ | refine Then_ret ?_))
    refine Body_end rfl rfl rfl (SubR.none _) ?_
    rfl
set_option maxHeartbeats 400000 in
theorem rem_fn (h : PH) (l : Xs) (v : Value) (k : ByteArray) (hv : Sl encX 2 h v l) (ht : tameX l) :
    Does Try.prog 16 [v, .string k] [] h (Ret fun r R' h' => ∃ w, r = .tuple #[w, .int .i64 (thereX l k)] ∧ Sl encX 2 h' w (remL l k) ∧ R' = []) := by
  have hf := there_fn h l v k hv ht
  have hl := ht.len
  obtain ⟨va, vc, rfl⟩ := hv.shape
  unfold remL
  refine Does_of_W Try.func16 rfl (n := 22) rfl rfl (by simp only [argE, Nat.reduceAdd] <;> rfl) ?_
  by_cases h0 : thereX l k = 0
  · rw [h0, if_pos rfl] at hf
    rw [h0, if_pos rfl]
    have hm : mayX l = true := by unfold thereX at h0; split at h0 <;> first | assumption | (exact absurd h0 (by decide))
    have hx : isX l k = true := by
      unfold thereX at h0; rw [if_pos hm] at h0
      split at h0
      · split at h0 <;> first | assumption | (exact absurd h0 (by decide))
      · contradiction
    have hs := srt_of_may hm
    obtain ⟨hi, he⟩ := at_X hs hx
    have hw := with_fn h _ (.slice none 0 0) l [] (lbX l k) (lbX l k + 1) hv Sl.nil (by omega) (by simp) (by omega) (by omega)
    rw [List.append_nil, ← delX_cut l k hs hx, Int.natCast_add, Int.natCast_one] at hw
    (repeat (first | refine W_seq ?_))
    skip
    refine W_region rfl ?_
    refine WL_is (X_assign rfl rfl) rfl rfl rfl ?_
    refine WL_is (X_assign rfl rfl) rfl rfl rfl ?_
    (repeat (first | refine WL_nil ?_ | refine Then_normal ?_ | refine W_seq ?_))
    skip
    refine W_region rfl ?_
    refine WL_is (X_move rfl rfl) rfl rfl rfl ?_
    refine WL_is (X_move rfl rfl) rfl rfl rfl ?_
    refine WL_is (X_callv rfl rfl rfl Try.func27 rfl (by assumption)) rfl rfl rfl ?_
    refine WL_is (X_move rfl rfl) rfl rfl rfl ?_
    refine WL_is (X_extract rfl rfl rfl) rfl rfl rfl ?_
    refine WL_is (X_extract rfl rfl rfl) rfl rfl rfl ?_
    refine WL_is (X_assign rfl rfl) rfl rfl rfl ?_
    refine WL_is (X_assign rfl rfl) rfl rfl rfl ?_
    (repeat (first | refine WL_nil ?_ | refine Then_normal ?_ | refine W_seq ?_))
    skip
    refine W_region rfl ?_
    refine WL_is (X_move rfl rfl) rfl rfl rfl ?_
    refine WL_is (X_neq_f rfl rfl rfl (by omega)) rfl rfl rfl ?_
    (repeat (first | refine WL_nil ?_ | refine Then_normal ?_ | refine W_seq ?_ | refine W_skip ?_ | refine W_false rfl ?_))
    skip
    refine W_region rfl ?_
    refine WL_is (X_move rfl rfl) rfl rfl rfl ?_
    refine WL_is (X_move rfl rfl) rfl rfl rfl ?_
    refine WL_is (X_move rfl rfl) rfl rfl rfl ?_
    refine WL_is (X_addW rfl rfl rfl (by exact wrap_i64_in (by omega) (by omega))) rfl rfl rfl ?_
    refine WL_call rfl rfl rfl Try.func24 rfl rfl rfl rfl hw ?_
    rintro w _ H1 M1 ⟨hsl, rfl⟩
    simp only [List.nil_append]
    refine WL_is (X_assign rfl rfl) rfl rfl rfl ?_
    refine WL_is (X_assign rfl rfl) rfl rfl rfl ?_
    (repeat (first | refine WL_nil ?_ | refine Then_normal ?_ | refine W_ret ?_))
    refine Body_vals (.cons (.tmp rfl) (.cons (.tmp rfl) .nil)) rfl ?_
    exact UpdE.of (Upd.refl _ _) ⟨_, rfl, hsl, rfl⟩
  · rw [if_neg h0] at hf
    rw [if_neg h0]
    (repeat (first | refine W_seq ?_))
    skip
    refine W_region rfl ?_
    refine WL_is (X_assign rfl rfl) rfl rfl rfl ?_
    refine WL_is (X_assign rfl rfl) rfl rfl rfl ?_
    (repeat (first | refine WL_nil ?_ | refine Then_normal ?_ | refine W_seq ?_))
    skip
    refine W_region rfl ?_
    refine WL_is (X_move rfl rfl) rfl rfl rfl ?_
    refine WL_is (X_move rfl rfl) rfl rfl rfl ?_
    refine WL_is (X_callv rfl rfl rfl Try.func27 rfl (by assumption)) rfl rfl rfl ?_
    refine WL_is (X_move rfl rfl) rfl rfl rfl ?_
    refine WL_is (X_extract rfl rfl rfl) rfl rfl rfl ?_
    refine WL_is (X_extract rfl rfl rfl) rfl rfl rfl ?_
    refine WL_is (X_assign rfl rfl) rfl rfl rfl ?_
    refine WL_is (X_assign rfl rfl) rfl rfl rfl ?_
    (repeat (first | refine WL_nil ?_ | refine Then_normal ?_ | refine W_seq ?_))
    skip
    refine W_region rfl ?_
    refine WL_is (X_move rfl rfl) rfl rfl rfl ?_
    refine WL_is (X_neq_t rfl rfl rfl (by omega)) rfl rfl rfl ?_
    (repeat (first | refine WL_nil ?_ | refine Then_normal ?_ | refine W_seq ?_ | refine W_true rfl ?_))
    skip
    refine W_region rfl ?_
    refine WL_is (X_move rfl rfl) rfl rfl rfl ?_
    refine WL_is (X_assign rfl rfl) rfl rfl rfl ?_
    refine WL_is (X_assign rfl rfl) rfl rfl rfl ?_
    (repeat (first | refine WL_nil ?_ | refine Then_normal ?_ | refine W_ret ?_ | refine Then_ret ?_))
    refine Body_vals (.cons (.tmp rfl) (.cons (.tmp rfl) .nil)) rfl ?_
    exact UpdE.of (Upd.refl _ _) ⟨_, rfl, Sl.nil, rfl⟩
end Go.Proofs.Ytakdjabamjgcfaa
