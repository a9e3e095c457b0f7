/- What is begun: the law on all of it. -/
import Derived.Test.YtcgmbfgmofcemaaBirthE
namespace Go.Proofs.Ytcgmbfgmofcemaa
set_option maxRecDepth 4000
open Go Go.Par PH
def bornR (c : Cred) (umask : Int) (p : Attr) (kind mode : Int) : Attr := if bornB c p kind then born c umask p kind mode else attr0
def bornE (c : Cred) (p : Attr) (kind : Int) : Int := if bornB c p kind then 0 else 622
theorem NewA.eq {c : Cred} {umask : Int} {p : Attr} {kind mode : Int} {h : PH} {r : Value} (H : NewA c umask p kind mode r h) :
    ∃ a1 a2 a3 a4 a5 c1 c2 c3 c4 c5, r = .tuple #[attrS (bornR c umask p kind mode) a1 a2 a3 a4 a5 c1 c2 c3 c4 c5, .int .i64 (bornE c p kind)] ∧ AttrV h (attrS (bornR c umask p kind mode) a1 a2 a3 a4 a5 c1 c2 c3 c4 c5) (bornR c umask p kind mode) := by
  unfold NewA at H
  obtain ⟨w, rfl, hw⟩ := H
  have hw : AttrV h w (bornR c umask p kind mode) := hw
  obtain ⟨a1, a2, a3, a4, a5, c1, c2, c3, c4, c5, rfl⟩ := hw.shape
  exact ⟨_, _, _, _, _, _, _, _, _, _, rfl, hw⟩
theorem acl0_small : acl0.small := ⟨by decide, by decide⟩
theorem attr0_small : attr0.small := ⟨acl0_small, acl0_small, by decide, fun x hx => by cases hx⟩
theorem mAcc_small {p : Attr} {umask mode : Int} (hs : p.small) : (mAcc p umask mode).small := by
  have := hs.df
  unfold Acl.small at this ⊢
  rw [mAcc_us, mAcc_gs]
  split
  · exact this
  · exact ⟨by decide, by decide⟩
theorem born_small {c : Cred} {umask : Int} {p : Attr} {kind mode : Int} (hs : p.small) : (born c umask p kind mode).small := by
  unfold born
  split
  · exact ⟨⟨Nat.zero_le _, Nat.zero_le _⟩, acl0_small, Nat.zero_le _, fun x hx => by cases hx⟩
  · split
    · exact ⟨mAcc_small hs, acl0_small, Nat.zero_le _, fun x hx => by cases hx⟩
    · exact ⟨mAcc_small hs, hs.df, Nat.zero_le _, fun x hx => by cases hx⟩
theorem bornR_small {c : Cred} {umask : Int} {p : Attr} {kind mode : Int} (hs : p.small) : (bornR c umask p kind mode).small := by
  unfold bornR; split
  · exact born_small hs
  · exact attr0_small
attribute [local irreducible] W WL Does Exec Body Then inBlk RG WR row obj pblk
attribute [local irreducible] bits
set_option maxHeartbeats 2000000 in
theorem new_law (h : PH) (c : Cred) (cv : Value) (umask : Int) (p : Attr) (v : Value) (kind mode : Int) (hc : CredV h cv c) (hv : AttrV h v p) (hok : p.Ok) (hu : u16 umask) (hm : u16 mode) :
    Does Try.prog 3 [cv, .int .u16 umask, v, .int .u8 kind, .int .u16 mode] [] h (Ret fun r _ _ => r = .bool true) := by
  have c1 := large14_fn h c cv p v hc hv
  have hc' := hc
  have hv' := hv
  obtain ⟨x, rfl, hx⟩ := hc
  obtain ⟨_, _, _, _, _, _, _, _, _, _, rfl⟩ := hv.shape
  refine Does_of_W Try.func3 rfl (n := 56) rfl rfl (by simp only [argE, Nat.reduceAdd] <;> rfl) ?_
  (repeat (first | refine W_seq ?_))
  skip
  refine W_region rfl ?_
  (refine WL_box rfl rfl rfl rfl rfl rfl ?_; intro b_)
  (refine WL_box rfl rfl rfl rfl rfl rfl ?_; intro b_)
  refine WL_is (X_assign rfl rfl) rfl rfl rfl ?_
  (repeat (first | refine WL_nil ?_ | refine Then_normal ?_ | refine W_seq ?_))
  skip
  refine W_region rfl ?_
  refine WL_is (X_loadA rfl rfl (by exact idx1) rfl rfl rfl) rfl rfl rfl ?_
  refine WL_is (X_loadA rfl rfl (by exact idx0) rfl rfl rfl) rfl rfl rfl ?_
  refine WL_call rfl rfl rfl Try.func8 rfl rfl rfl rfl c1 ?_
  rintro _ _ H1 L1 ⟨⟨b, rfl, hb⟩, rfl⟩
  simp only [List.nil_append]
  cases b with
  | true =>
    have al := alive_fn H1
    (repeat (first | refine WL_nil ?_ | refine Then_normal ?_ | refine W_seq ?_ | refine W_true rfl ?_))
    skip
    refine W_region rfl ?_
    refine WL_is (X_callv rfl rfl rfl Try.func9 rfl (by assumption)) rfl rfl rfl ?_
    refine WL_is (X_assign rfl rfl) rfl rfl rfl ?_
    (repeat (first | refine WL_nil ?_ | refine Then_normal ?_ | refine W_ret ?_ | refine Then_ret ?_))
    refine Body_end rfl rfl rfl (SubR.none _) ?_
    rfl
  | false =>
    obtain ⟨ht, h60⟩ := hb rfl
    have hs := ht.small
    (repeat (first | refine WL_nil ?_ | refine Then_normal ?_ | refine W_seq ?_ | refine W_skip ?_ | refine W_false rfl ?_))
    skip
    refine W_region rfl ?_
    refine WL_is (X_loadA rfl rfl (by exact idx0) rfl rfl rfl) rfl rfl rfl ?_
    refine WL_call rfl rfl rfl Try.func10 rfl rfl rfl rfl (attrCopyK_ref H1 p _ (hv'.mono L1) hs) ?_
    rintro _ _ H2 L2 ⟨hO, rfl⟩
    obtain ⟨_, _, _, _, _, _, _, _, _, _, rfl⟩ := hO.shape
    simp only [List.nil_append]
    (refine WL_alloc rfl rfl rfl rfl rfl rfl ?_; intro b_)
    refine WL_store rfl rfl rfl (by exact idx0) rfl rfl rfl rfl rfl rfl rfl rfl rfl ?_
    (repeat (first | refine WL_nil ?_ | refine Then_normal ?_ | refine W_seq ?_))
    skip
    refine W_region rfl ?_
    refine WL_is (X_loadA rfl rfl (by exact idx2) rfl rfl rfl) rfl rfl rfl ?_
    refine WL_is (X_move rfl rfl) rfl rfl rfl ?_
    refine WL_is (X_loadA rfl rfl (by exact idx0) rfl rfl rfl) rfl rfl rfl ?_
    refine WL_is (X_move rfl rfl) rfl rfl rfl ?_
    refine WL_is (X_move rfl rfl) rfl rfl rfl ?_
    refine WL_call rfl rfl rfl Try.func11 rfl rfl rfl rfl (new_fn H2 c _ umask p _ kind mode (hc'.mono (L1.trans L2)) hO hs hok (by omega) hu hm) ?_
    rintro _ _ H3 L3 ⟨hN, rfl⟩
    obtain ⟨_, _, _, _, _, _, _, _, _, _, rfl, hA⟩ := hN.eq
    simp only [List.nil_append]
    refine WL_is (X_move rfl rfl) rfl rfl rfl ?_
    refine WL_is (X_extract rfl rfl rfl) rfl rfl rfl ?_
    refine WL_is (X_extract rfl rfl rfl) rfl rfl rfl ?_
    (refine WL_alloc rfl rfl rfl rfl rfl rfl ?_; intro b_)
    refine WL_store rfl rfl rfl (by exact idx0) rfl rfl rfl rfl rfl rfl rfl rfl rfl ?_
    refine WL_is (X_assign rfl rfl) rfl rfl rfl ?_
    (repeat (first | refine WL_nil ?_ | refine Then_normal ?_ | refine W_seq ?_))
    skip
    refine W_region rfl ?_
    refine WL_is (X_loadA rfl rfl (by exact idx3) rfl rfl rfl) rfl rfl rfl ?_
    refine WL_is (X_move rfl rfl) rfl rfl rfl ?_
    refine WL_is (X_loadA rfl rfl (by exact idx2) rfl rfl rfl) rfl rfl rfl ?_
    refine WL_is (X_move rfl rfl) rfl rfl rfl ?_
    refine WL_is (X_move rfl rfl) rfl rfl rfl ?_
    refine WL_call rfl rfl rfl Try.func12 rfl rfl rfl rfl (new_ref H3 c _ umask p _ kind mode (hc'.mono ((L1.trans L2).trans L3)) (hv'.mono ((L1.trans L2).trans L3)) hs hok (by omega) hu hm) ?_
    rintro _ _ H4 L4 ⟨hN2, rfl⟩
    obtain ⟨_, _, _, _, _, _, _, _, _, _, rfl, hB⟩ := hN2.eq
    simp only [List.nil_append]
    refine WL_is (X_move rfl rfl) rfl rfl rfl ?_
    refine WL_is (X_extract rfl rfl rfl) rfl rfl rfl ?_
    refine WL_is (X_extract rfl rfl rfl) rfl rfl rfl ?_
    (refine WL_alloc rfl rfl rfl rfl rfl rfl ?_; intro b_)
    refine WL_store rfl rfl rfl (by exact idx0) rfl rfl rfl rfl rfl rfl rfl rfl rfl ?_
    refine WL_is (X_assign rfl rfl) rfl rfl rfl ?_
    (repeat (first | refine WL_nil ?_ | refine Then_normal ?_ | refine W_seq ?_))
    have hbs := bornR_small (c := c) (umask := umask) (kind := kind) (mode := mode) hs
    have e1 := attrSame_ref H4 _ _ _ _ (hA.mono L4) hB hbs hbs
    have e2 := attrSame_ref H4 _ _ _ _ (hO.mono (L3.trans L4)) (hv'.mono (((L1.trans L2).trans L3).trans L4)) hs hs
    rw [decide_eq_true rfl] at e1 e2
    have al := alive_fn H4
    generalize bornE c p kind = E
    skip
    refine W_region rfl ?_
    refine WL_is (X_loadA rfl rfl (by exact idx1) rfl rfl rfl) rfl rfl rfl ?_
    refine WL_is (X_loadA rfl rfl (by exact idx0) rfl rfl rfl) rfl rfl rfl ?_
    refine WL_is (X_callv rfl rfl rfl Try.func13 rfl (by assumption)) rfl rfl rfl ?_
    refine WL_is (X_move rfl rfl) rfl rfl rfl ?_
    refine WL_is (X_move rfl rfl) rfl rfl rfl ?_
    refine WL_is (X_move rfl rfl) rfl rfl rfl ?_
    refine WL_is (X_eql_t rfl rfl rfl (by omega)) rfl rfl rfl ?_
    refine WL_is (X_pick_t rfl rfl rfl) rfl rfl rfl ?_
    refine WL_is (X_move rfl rfl) rfl rfl rfl ?_
    refine WL_is (X_loadA rfl rfl (by exact idx2) rfl rfl rfl) rfl rfl rfl ?_
    refine WL_is (X_loadA rfl rfl (by exact idx3) rfl rfl rfl) rfl rfl rfl ?_
    refine WL_is (X_callv rfl rfl rfl Try.func13 rfl (by assumption)) rfl rfl rfl ?_
    refine WL_is (X_pick_t rfl rfl rfl) rfl rfl rfl ?_
    refine WL_is (X_move rfl rfl) rfl rfl rfl ?_
    refine WL_is (X_callv rfl rfl rfl Try.func9 rfl (by assumption)) rfl rfl rfl ?_
    refine WL_is (X_pick_t rfl rfl rfl) rfl rfl rfl ?_
    refine WL_is (X_assign rfl rfl) rfl rfl rfl ?_
    (repeat (first | refine WL_nil ?_ | refine Then_normal ?_ | refine W_ret ?_))
    refine Body_end rfl rfl rfl (SubR.none _) ?_
    rfl
end Go.Proofs.Ytcgmbfgmofcemaa
