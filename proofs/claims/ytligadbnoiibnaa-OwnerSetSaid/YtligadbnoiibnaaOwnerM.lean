/- Who may turn attributes: the law on modes, owners, and what was written. -/
import Derived.Test.YtligadbnoiibnaaOwnerL
namespace Go.Proofs.Ytligadbnoiibnaa
set_option maxRecDepth 4000
open Go Go.Par PH
theorem attr0_sm : attr0.small := ⟨⟨Nat.zero_le _, Nat.zero_le _⟩, ⟨Nat.zero_le _, Nat.zero_le _⟩, Nat.zero_le _, fun x hx => by cases hx⟩
theorem loseO_small {c : Cred} {a : Attr} {k : Int} (h : a.small) : (loseO c a k).small := Attr.wb_small h
theorem goesO_small {a : Attr} (h : a.small) : (goesO a).small := Attr.wb_small h
theorem chmodO_small {c : Cred} {a : Attr} {k m : Int} (h : a.small) : (chmodO c a k m).2.small := by
  unfold chmodO
  split
  · split
    · exact loseO_small (Attr.moded_small h)
    · exact attr0_sm
  · exact attr0_sm
theorem chownO_small {c : Cred} {a : Attr} {k u g : Int} (h : a.small) : (chownO c a k u g).2.small := by
  unfold chownO
  split
  · split
    · split
      · dsimp only
        split
        · exact goesO_small (Attr.given_small h)
        · exact Attr.given_small h
      · exact attr0_sm
    · exact attr0_sm
  · exact attr0_sm
theorem writtenO_small {c : Cred} {a : Attr} (h : a.small) : (writtenO c a).small := by
  unfold writtenO
  split
  · split
    · exact h
    · exact goesO_small h
  · exact attr0_sm
attribute [local irreducible] W WL Does Exec Body Then inBlk RG WR row obj pblk
attribute [local irreducible] bits
set_option maxHeartbeats 4000000 in
theorem turns_law (h : PH) (c : Cred) (cv : Value) (a : Attr) (v : Value) (kind mode uid gid : Int) (hc : CredV h cv c) (hv : AttrV h v a) (hok : a.Ok) (hm : u16 mode) :
    Does Try.prog 6 [cv, v, .int .u8 kind, .int .u16 mode, .int .i64 uid, .int .i64 gid] [] h (Ret fun r _ _ => r = .bool true) := by
  have c1 := large13_fn h c cv a v hc hv
  have hc' := hc
  have hv' := hv
  obtain ⟨x, rfl, hx⟩ := hc
  obtain ⟨xa, xc, rfl⟩ := hx.shape
  obtain ⟨_, _, _, _, _, _, _, _, _, _, rfl⟩ := hv.shape
  refine Does_of_W Try.func6 rfl (n := 100) rfl rfl (by simp only [argE, Nat.reduceAdd] <;> rfl) ?_
  (repeat (first | refine W_seq ?_))
  skip
  refine W_region rfl ?_
  (refine WL_box rfl rfl rfl rfl rfl rfl ?_; intro b_)
  (refine WL_box rfl rfl rfl rfl rfl rfl ?_; intro b_)
  refine WL_is (X_assign rfl rfl) rfl rfl rfl ?_
  (repeat (first | refine WL_nil ?_ | refine Then_normal ?_ | refine W_seq ?_))
  skip
  refine W_region rfl ?_
  refine WL_is (X_loadA rfl rfl (by exact idx1) rfl rfl rfl) rfl rfl rfl ?_
  refine WL_is (X_loadA rfl rfl (by exact idx0) rfl rfl rfl) rfl rfl rfl ?_
  refine WL_call rfl rfl rfl Try.func8 rfl rfl rfl rfl c1 ?_
  rintro _ _ H1 L1 ⟨⟨b, rfl, hb⟩, rfl⟩
  simp only [List.nil_append]
  cases b with
  | true =>
    have al := alive_fn H1
    (repeat (first | refine WL_nil ?_ | refine Then_normal ?_ | refine W_seq ?_ | refine W_true rfl ?_))
    skip
    refine W_region rfl ?_
    refine WL_is (X_callv rfl rfl rfl Try.func10 rfl (by assumption)) rfl rfl rfl ?_
    refine WL_is (X_assign rfl rfl) rfl rfl rfl ?_
    (repeat (first | refine WL_nil ?_ | refine Then_normal ?_ | refine W_ret ?_ | refine Then_ret ?_))
    refine Body_end rfl rfl rfl (SubR.none _) ?_
    rfl
  | false =>
    obtain ⟨ht, h60⟩ := hb rfl
    have hs := ht.small
    have hcl : c.gs.length ≤ 1000 := by omega
    (repeat (first | refine WL_nil ?_ | refine Then_normal ?_ | refine W_seq ?_ | refine W_skip ?_ | refine W_false rfl ?_))
    skip
    refine W_region rfl ?_
    refine WL_is (X_loadA rfl rfl (by exact idx0) rfl rfl rfl) rfl rfl rfl ?_
    refine WL_call rfl rfl rfl Try.func11 rfl rfl rfl rfl (attrCopyK_ref H1 a _ (hv'.mono L1) hs) ?_
    rintro _ _ H2 L2 ⟨hO, rfl⟩
    obtain ⟨_, _, _, _, _, _, _, _, _, _, rfl⟩ := hO.shape
    simp only [List.nil_append]
    have hc2 := hc'.mono (L1.trans L2)
    have hv2 := hv'.mono (L1.trans L2)
    (refine WL_alloc rfl rfl rfl rfl rfl rfl ?_; intro b_)
    refine WL_store rfl rfl rfl (by exact idx0) rfl rfl rfl rfl rfl rfl rfl rfl rfl ?_
    (repeat (first | refine WL_nil ?_ | refine Then_normal ?_ | refine W_seq ?_))
    skip
    refine W_region rfl ?_
    refine WL_is (X_loadA rfl rfl (by exact idx2) rfl rfl rfl) rfl rfl rfl ?_
    refine WL_is (X_loadA rfl rfl (by exact idx0) rfl rfl rfl) rfl rfl rfl ?_
    refine WL_is (X_move rfl rfl) rfl rfl rfl ?_
    refine WL_is (X_move rfl rfl) rfl rfl rfl ?_
    refine WL_call rfl rfl rfl Try.func21 rfl rfl rfl rfl (chmod13_fn H2 c _ a _ kind mode hc2 hcl hO hs hok hm) ?_
    rintro _ _ H3 L3 ⟨⟨v1, rfl, hv3⟩, rfl⟩
    obtain ⟨_, _, _, _, _, _, _, _, _, _, rfl⟩ := hv3.shape
    simp only [List.nil_append]
    refine WL_is (X_move rfl rfl) rfl rfl rfl ?_
    refine WL_is (X_extract rfl rfl rfl) rfl rfl rfl ?_
    refine WL_is (X_extract rfl rfl rfl) rfl rfl rfl ?_
    (refine WL_alloc rfl rfl rfl rfl rfl rfl ?_; intro b_)
    refine WL_store rfl rfl rfl (by exact idx0) rfl rfl rfl rfl rfl rfl rfl rfl rfl ?_
    refine WL_is (X_assign rfl rfl) rfl rfl rfl ?_
    (repeat (first | refine WL_nil ?_ | refine Then_normal ?_ | refine W_seq ?_))
    skip
    refine W_region rfl ?_
    refine WL_is (X_loadA rfl rfl (by exact idx3) rfl rfl rfl) rfl rfl rfl ?_
    refine WL_is (X_loadA rfl rfl (by exact idx2) rfl rfl rfl) rfl rfl rfl ?_
    refine WL_is (X_move rfl rfl) rfl rfl rfl ?_
    refine WL_is (X_move rfl rfl) rfl rfl rfl ?_
    refine WL_call rfl rfl rfl Try.func27 rfl rfl rfl rfl (chmod13_ref H3 c _ a _ kind mode (hc2.mono L3) hcl (hv2.mono L3) hs hok hm) ?_
    rintro _ _ H4 L4 ⟨⟨v2, rfl, hv4⟩, rfl⟩
    obtain ⟨_, _, _, _, _, _, _, _, _, _, rfl⟩ := hv4.shape
    simp only [List.nil_append]
    refine WL_is (X_move rfl rfl) rfl rfl rfl ?_
    refine WL_is (X_extract rfl rfl rfl) rfl rfl rfl ?_
    refine WL_is (X_extract rfl rfl rfl) rfl rfl rfl ?_
    (refine WL_alloc rfl rfl rfl rfl rfl rfl ?_; intro b_)
    refine WL_store rfl rfl rfl (by exact idx0) rfl rfl rfl rfl rfl rfl rfl rfl rfl ?_
    refine WL_is (X_assign rfl rfl) rfl rfl rfl ?_
    (repeat (first | refine WL_nil ?_ | refine Then_normal ?_ | refine W_seq ?_))
    skip
    refine W_region rfl ?_
    refine WL_is (X_loadA rfl rfl (by exact idx4) rfl rfl rfl) rfl rfl rfl ?_
    refine WL_is (X_loadA rfl rfl (by exact idx2) rfl rfl rfl) rfl rfl rfl ?_
    refine WL_is (X_move rfl rfl) rfl rfl rfl ?_
    refine WL_is (X_move rfl rfl) rfl rfl rfl ?_
    refine WL_is (X_move rfl rfl) rfl rfl rfl ?_
    refine WL_call rfl rfl rfl Try.func22 rfl rfl rfl rfl (chown13_fn H4 c _ a _ kind uid gid (hc2.mono (L3.trans L4)) hcl (hO.mono (L3.trans L4)) hs hok) ?_
    rintro _ _ H5 L5 ⟨⟨v3, rfl, hv5⟩, rfl⟩
    obtain ⟨_, _, _, _, _, _, _, _, _, _, rfl⟩ := hv5.shape
    simp only [List.nil_append]
    have L25 := L3.trans (L4.trans L5)
    refine WL_is (X_move rfl rfl) rfl rfl rfl ?_
    refine WL_is (X_extract rfl rfl rfl) rfl rfl rfl ?_
    refine WL_is (X_extract rfl rfl rfl) rfl rfl rfl ?_
    (refine WL_alloc rfl rfl rfl rfl rfl rfl ?_; intro b_)
    refine WL_store rfl rfl rfl (by exact idx0) rfl rfl rfl rfl rfl rfl rfl rfl rfl ?_
    refine WL_is (X_assign rfl rfl) rfl rfl rfl ?_
    (repeat (first | refine WL_nil ?_ | refine Then_normal ?_ | refine W_seq ?_))
    skip
    refine W_region rfl ?_
    refine WL_is (X_loadA rfl rfl (by exact idx5) rfl rfl rfl) rfl rfl rfl ?_
    refine WL_is (X_loadA rfl rfl (by exact idx4) rfl rfl rfl) rfl rfl rfl ?_
    refine WL_is (X_move rfl rfl) rfl rfl rfl ?_
    refine WL_is (X_move rfl rfl) rfl rfl rfl ?_
    refine WL_is (X_move rfl rfl) rfl rfl rfl ?_
    refine WL_call rfl rfl rfl Try.func28 rfl rfl rfl rfl (chown13_ref H5 c _ a _ kind uid gid (hc2.mono L25) hcl (hv2.mono L25) hs hok) ?_
    rintro _ _ H6 L6 ⟨⟨v4, rfl, hv6⟩, rfl⟩
    obtain ⟨_, _, _, _, _, _, _, _, _, _, rfl⟩ := hv6.shape
    simp only [List.nil_append]
    have L26 := L25.trans L6
    have e1 := same13_ref H6 _ _ (chmodO c a kind mode).1 (chmodO c a kind mode).1 _ _ (hv3.mono (L4.trans (L5.trans L6))) (hv4.mono (L5.trans L6)) (chmodO_small hs) (chmodO_small hs)
    have e2 := same13_ref H6 _ _ (chownO c a kind uid gid).1 (chownO c a kind uid gid).1 _ _ (hv5.mono L6) hv6 (chownO_small hs) (chownO_small hs)
    rw [decide_eq_true rfl, decide_eq_true rfl] at e1 e2
    have hc6 := hc2.mono L26
    have hO6 := hO.mono L26
    have hv7 := hv2.mono L26
    have e3 := Owns_fn H6 c _ a _ hc6 hO6 hs hok
    have e4 := owns13_ref H6 c _ a _ hc6 hv7 hs hok
    generalize (chmodO c a kind mode).1 = n1 at *
    generalize (chownO c a kind uid gid).1 = n2 at *
    unfold credV at e3 e4
    unfold attrS attrV at e1 e2 e3 e4
    unfold attrS attrV
    refine WL_is (X_move rfl rfl) rfl rfl rfl ?_
    refine WL_is (X_extract rfl rfl rfl) rfl rfl rfl ?_
    refine WL_is (X_extract rfl rfl rfl) rfl rfl rfl ?_
    (refine WL_alloc rfl rfl rfl rfl rfl rfl ?_; intro b_)
    refine WL_store rfl rfl rfl (by exact idx0) rfl rfl rfl rfl rfl rfl rfl rfl rfl ?_
    refine WL_is (X_assign rfl rfl) rfl rfl rfl ?_
    (repeat (first | refine WL_nil ?_ | refine Then_normal ?_ | refine W_seq ?_))
    skip
    refine W_draw0 33 rfl rfl rfl rfl ?_
    refine RG_val rfl rfl (fun _ => rfl) (fun _ => X_loadA rfl rfl (by exact idx3) rfl rfl rfl) ?_
    refine RG_val rfl rfl (fun _ => rfl) (fun _ => X_move rfl rfl) ?_
    refine RG_val rfl rfl (fun _ => rfl) (fun _ => X_loadA rfl rfl (by exact idx2) rfl rfl rfl) ?_
    refine RG_val rfl rfl (fun _ => rfl) (fun _ => X_move rfl rfl) ?_
    refine RG_val rfl rfl (fun _ => rfl) (fun _ => X_callv rfl rfl rfl Try.func15 rfl (by assumption)) ?_
    refine RG_val rfl rfl (fun _ => rfl) (fun _ => X_move rfl rfl) ?_
    refine RG_val rfl rfl (fun _ => rfl) (fun _ => X_loadA rfl rfl (by exact idx1) rfl rfl rfl) ?_
    refine RG_val rfl rfl (fun _ => rfl) (fun _ => X_move rfl rfl) ?_
    refine RG_val rfl rfl (fun _ => rfl) (fun _ => X_loadA rfl rfl (by exact idx0) rfl rfl rfl) ?_
    refine RG_val rfl rfl (fun _ => rfl) (fun _ => X_move rfl rfl) ?_
    refine RG_val rfl rfl (fun _ => rfl) (fun _ => X_callv rfl rfl rfl Try.func15 rfl (by assumption)) ?_
    refine RG_val rfl rfl (fun _ => rfl) (fun _ => X_pick_t rfl rfl rfl) ?_
    refine RG_val rfl rfl (fun _ => rfl) (fun _ => X_move rfl rfl) ?_
    refine RG_val rfl rfl (fun _ => rfl) (fun _ => X_loadA rfl rfl (by exact idx6) rfl rfl rfl) ?_
    refine RG_val rfl rfl (fun _ => rfl) (fun _ => X_loadA rfl rfl (by exact idx4) rfl rfl rfl) ?_
    refine RG_val rfl rfl (fun _ => rfl) (fun _ => X_callv rfl rfl rfl Try.func23 rfl (by assumption)) ?_
    refine RG_val rfl rfl (fun _ => rfl) (fun _ => X_loadA rfl rfl (by exact idx6) rfl rfl rfl) ?_
    refine RG_val rfl rfl (fun _ => rfl) (fun _ => X_loadA rfl rfl (by exact idx5) rfl rfl rfl) ?_
    refine RG_val rfl rfl (fun _ => rfl) (fun _ => X_callv rfl rfl rfl Try.func29 rfl (by assumption)) ?_
    refine RG_val rfl rfl (fun _ => rfl) (fun _ => X_eqB_t rfl rfl rfl rfl (by rfl)) ?_
    refine RG_val rfl rfl (fun _ => rfl) (fun _ => X_pick_t rfl rfl rfl) ?_
    refine RG_val rfl rfl (fun _ => rfl) (fun _ => X_move rfl rfl) ?_
    refine RG_val rfl rfl (fun _ => rfl) (fun _ => X_loadA rfl rfl (by exact idx6) rfl rfl rfl) ?_
    refine RG_val rfl rfl (fun _ => rfl) (fun _ => X_loadA rfl rfl (by exact idx4) rfl rfl rfl) ?_
    refine RG_callo (fun v h' => AttrV h' v (writtenO c a)) (fun _ _ _ hl h => h.mono hl) rfl (fun _ => rfl) (fun _ => rfl) Try.func30 rfl rfl rfl (fun _ => rfl) (fun vs h' hl _ => (written_fn h' c _ a _ (hc6.mono hl) (hO6.mono hl) hs hok).wkn (fun _ _ _ _ h => h.1)) ?_
    refine RG_val rfl rfl (fun _ => rfl) (fun _ => X_loadA rfl rfl (by exact idx6) rfl rfl rfl) ?_
    refine RG_val rfl rfl (fun _ => rfl) (fun _ => X_loadA rfl rfl (by exact idx5) rfl rfl rfl) ?_
    refine RG_callo (fun v h' => AttrV h' v (writtenO c a)) (fun _ _ _ hl h => h.mono hl) rfl (fun _ => rfl) (fun _ => rfl) Try.func31 rfl rfl rfl (fun _ => rfl) (fun vs h' hl _ => (written_ref h' c _ a _ (hc6.mono hl) (hv7.mono hl) hs hok).wkn (fun _ _ _ _ h => h.1)) ?_
    refine RG_callv (.bool true) rfl (fun _ => rfl) (fun vs => rfl) Try.func18 rfl rfl rfl (fun _ => rfl) (fun vs h' hl hf => ?_) ?_
    · have f1 : AttrV h' (vs 27) (writtenO c a) := hf.1
      have f2 : AttrV h' (vs 24) (writtenO c a) := hf.2.1
      have := attrSame_ref h' _ _ _ _ f2 f1 (writtenO_small hs) (writtenO_small hs)
      rw [decide_eq_true rfl] at this
      exact this
    refine RG_val rfl rfl (fun _ => rfl) (fun _ => X_pick_t rfl rfl rfl) ?_
    refine RG_val rfl rfl (fun _ => rfl) (fun _ => X_move rfl rfl) ?_
    refine RG_val rfl rfl (fun _ => rfl) (fun _ => X_loadA rfl rfl (by exact idx4) rfl rfl rfl) ?_
    refine RG_val rfl rfl (fun _ => rfl) (fun _ => X_loadA rfl rfl (by exact idx5) rfl rfl rfl) ?_
    refine RG_nil ?_
    refine RG_end rfl (fun vs => by simp only [endE, List.cons_append, List.nil_append] <;> rfl) (fun vs => by simp only [endR, List.nil_append, List.append_nil] <;> rfl) (fun vs h' hf => hf) ?_
    rintro vs h' hl -
    have e5 := attrSame_ref h' a a _ _ (hO6.mono hl) (hv7.mono hl) hs hs
    rw [decide_eq_true rfl] at e5
    unfold attrS attrV at e5
    have al := alive_fn h'
    refine WL_is (X_callv rfl rfl rfl Try.func18 rfl (by assumption)) rfl rfl rfl ?_
    refine WL_is (X_pick_t rfl rfl rfl) rfl rfl rfl ?_
    refine WL_is (X_move rfl rfl) rfl rfl rfl ?_
    refine WL_is (X_callv rfl rfl rfl Try.func10 rfl (by assumption)) rfl rfl rfl ?_
    refine WL_is (X_pick_t rfl rfl rfl) rfl rfl rfl ?_
    refine WL_is (X_assign rfl rfl) rfl rfl rfl ?_
    (repeat (first | refine WL_nil ?_ | refine Then_normal ?_ | refine W_ret ?_))
    refine Body_end rfl rfl rfl (SubR.none _) ?_
    rfl
end Go.Proofs.Ytligadbnoiibnaa
