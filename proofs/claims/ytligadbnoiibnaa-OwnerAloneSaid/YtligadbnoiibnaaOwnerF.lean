/- Who may turn attributes: another mode, by the document. -/
import Derived.Test.YtligadbnoiibnaaOwnerE
namespace Go.Proofs.Ytligadbnoiibnaa
set_option maxRecDepth 4000
open Go Go.Par PH
theorem Acl.chmod_small {a : Acl} {b : Int} (h : a.small) : (a.chmod b).small := by
  obtain ⟨o, g, t, us, gs, hm, m⟩ := a
  cases hm <;> exact h
theorem Attr.moded_small {a : Attr} {b : Int} (h : a.small) : (a.moded b).small := ⟨Acl.chmod_small h.acc, h.df, h.xs, h.ks⟩
attribute [local irreducible] W WL Does Exec Body Then inBlk RG WR row obj pblk
attribute [local irreducible] bits
set_option maxHeartbeats 2000000 in
theorem chmod13_ref (h : PH) (c : Cred) (cv : Value) (a : Attr) (v : Value) (kind mode : Int) (hc : CredV h cv c) (hcl : c.gs.length ≤ 1000) (hv : AttrV h v a) (hs : a.small) (hok : a.Ok) (hm : u16 mode) :
    Does Try.prog 27 [cv, v, .int .u8 kind, .int .u16 mode] [] h (Ret (AnsO (chmodO c a kind mode))) := by
  have m1 := may13_ref h c cv a v hc hv hs hok
  have m2 := owns13_ref h c cv a v hc hv hs hok
  have hc' := hc
  have hv' := hv
  have hmb := hm
  unfold u16 at hmb
  obtain ⟨x, rfl, hx⟩ := hc
  obtain ⟨xa, xc, rfl⟩ := hx.shape
  obtain ⟨_, _, _, _, _, _, _, _, _, _, rfl⟩ := hv.shape
  unfold credV at m1 m2
  unfold attrS attrV at m1 m2
  unfold credV attrS attrV chmodO
  refine Does_of_W Try.func27 rfl (n := 37) rfl rfl (by simp only [argE, Nat.reduceAdd] <;> rfl) ?_
  (repeat (first | refine W_seq ?_))
  refine W_region rfl ?_
  (refine WL_box rfl rfl rfl rfl rfl rfl ?_; intro b_)
  (refine WL_box rfl rfl rfl rfl rfl rfl ?_; intro b_)
  (refine WL_alloc rfl rfl rfl rfl rfl rfl ?_; intro b_)
  refine WL_is (X_assign rfl rfl) rfl rfl rfl ?_
  (repeat (first | refine WL_nil ?_ | refine Then_normal ?_ | refine W_seq ?_))
  cases hmay : mayO c a with
  | false =>
    rw [hmay] at m1
    skip
    refine W_region rfl ?_
    refine WL_is (X_loadA rfl rfl (by exact idx2) rfl rfl rfl) rfl rfl rfl ?_
    refine WL_is (X_loadA rfl rfl (by exact idx1) rfl rfl rfl) rfl rfl rfl ?_
    refine WL_is (X_callv rfl rfl rfl Try.func44 rfl (by assumption)) rfl rfl rfl ?_
    refine WL_is (X_not rfl rfl) rfl rfl rfl ?_
    (repeat (first | refine WL_nil ?_ | refine Then_normal ?_ | refine W_seq ?_ | refine W_true rfl ?_))
    skip
    refine W_region rfl ?_
    refine WL_is (X_build rfl rfl rfl) rfl rfl rfl ?_
    refine WL_store rfl rfl rfl (by exact idx0) rfl rfl rfl rfl rfl rfl rfl rfl rfl ?_
    refine WL_is (X_assign rfl rfl) rfl rfl rfl ?_
    (repeat (first | refine WL_nil ?_ | refine Then_normal ?_ | refine W_ret ?_ | refine Then_ret ?_))
    refine Body_vals (.cons (.cellA rfl (by exact idx0) rfl rfl rfl) (.cons (.tmp rfl) .nil)) rfl (UpdE.sub (SubR.none _) ?_)
    exact AnsO.bad h 622
  | true =>
    rw [hmay] at m1 m2
    cases hown : ownsO c a with
    | false =>
      rw [hown] at m2
      skip
      refine W_region rfl ?_
      refine WL_is (X_loadA rfl rfl (by exact idx2) rfl rfl rfl) rfl rfl rfl ?_
      refine WL_is (X_loadA rfl rfl (by exact idx1) rfl rfl rfl) rfl rfl rfl ?_
      refine WL_is (X_callv rfl rfl rfl Try.func44 rfl (by assumption)) rfl rfl rfl ?_
      refine WL_is (X_not rfl rfl) rfl rfl rfl ?_
      (repeat (first | refine WL_nil ?_ | refine Then_normal ?_ | refine W_seq ?_ | refine W_skip ?_ | refine W_false rfl ?_))
      skip
      refine W_region rfl ?_
      refine WL_is (X_loadA rfl rfl (by exact idx2) rfl rfl rfl) rfl rfl rfl ?_
      refine WL_is (X_loadA rfl rfl (by exact idx1) rfl rfl rfl) rfl rfl rfl ?_
      refine WL_is (X_callv rfl rfl rfl Try.func29 rfl (by assumption)) rfl rfl rfl ?_
      refine WL_is (X_not rfl rfl) rfl rfl rfl ?_
      (repeat (first | refine WL_nil ?_ | refine Then_normal ?_ | refine W_seq ?_ | refine W_true rfl ?_))
      skip
      refine W_region rfl ?_
      refine WL_is (X_build rfl rfl rfl) rfl rfl rfl ?_
      refine WL_store rfl rfl rfl (by exact idx0) rfl rfl rfl rfl rfl rfl rfl rfl rfl ?_
      refine WL_is (X_assign rfl rfl) rfl rfl rfl ?_
      (repeat (first | refine WL_nil ?_ | refine Then_normal ?_ | refine W_ret ?_ | refine Then_ret ?_))
      refine Body_vals (.cons (.cellA rfl (by exact idx0) rfl rfl rfl) (.cons (.tmp rfl) .nil)) rfl (UpdE.sub (SubR.none _) ?_)
      exact AnsO.bad h 601
    | true =>
      rw [hown] at m2
      skip
      refine W_region rfl ?_
      refine WL_is (X_loadA rfl rfl (by exact idx2) rfl rfl rfl) rfl rfl rfl ?_
      refine WL_is (X_loadA rfl rfl (by exact idx1) rfl rfl rfl) rfl rfl rfl ?_
      refine WL_is (X_callv rfl rfl rfl Try.func44 rfl (by assumption)) rfl rfl rfl ?_
      refine WL_is (X_not rfl rfl) rfl rfl rfl ?_
      (repeat (first | refine WL_nil ?_ | refine Then_normal ?_ | refine W_seq ?_ | refine W_skip ?_ | refine W_false rfl ?_))
      skip
      refine W_region rfl ?_
      refine WL_is (X_loadA rfl rfl (by exact idx2) rfl rfl rfl) rfl rfl rfl ?_
      refine WL_is (X_loadA rfl rfl (by exact idx1) rfl rfl rfl) rfl rfl rfl ?_
      refine WL_is (X_callv rfl rfl rfl Try.func29 rfl (by assumption)) rfl rfl rfl ?_
      refine WL_is (X_not rfl rfl) rfl rfl rfl ?_
      (repeat (first | refine WL_nil ?_ | refine Then_normal ?_ | refine W_seq ?_ | refine W_skip ?_ | refine W_false rfl ?_))
      skip
      refine W_region rfl ?_
      refine WL_is (X_loadA rfl rfl (by exact idx1) rfl rfl rfl) rfl rfl rfl ?_
      refine WL_call rfl rfl rfl Try.func11 rfl rfl rfl rfl (attrCopyK_ref h a _ hv' hs) ?_
      rintro _ _ H1 L1 ⟨hA, rfl⟩
      obtain ⟨U, G, U2, G2, X, rfl, s1, s2, s3, s4, s5⟩ := hA
      obtain ⟨_, _, rfl⟩ := s1.shape
      obtain ⟨_, _, rfl⟩ := s2.shape
      obtain ⟨_, _, rfl⟩ := s3.shape
      obtain ⟨_, _, rfl⟩ := s4.shape
      obtain ⟨_, _, rfl⟩ := s5.shape
      simp only [List.nil_append]
      unfold attrV
      (refine WL_alloc rfl rfl rfl rfl rfl rfl ?_; intro b_)
      refine WL_store rfl rfl rfl (by exact idx0) rfl rfl rfl rfl rfl rfl rfl rfl rfl ?_
      (repeat (first | refine WL_nil ?_ | refine Then_normal ?_ | refine W_seq ?_))
      skip
      refine W_region rfl ?_
      refine WL_is (X_move rfl rfl) rfl rfl rfl ?_
      refine WL_is (X_quoW rfl rfl rfl (by omega) (by omega) (by exact wrap_u16_in (by omega) (by omega))) rfl rfl rfl ?_
      refine WL_is (X_rem rfl rfl rfl (by omega) (by omega)) rfl rfl rfl ?_
      refine WL_is (X_convW rfl rfl rfl rfl (by exact wrap_u8_in (by omega) (by omega))) rfl rfl rfl ?_
      refine WL_is (X_fieldAddr rfl rfl rfl (by simp only [Nat.zero_add] <;> rfl)) rfl rfl rfl ?_
      refine WL_store rfl rfl rfl (by exact idx0) rfl rfl rfl rfl rfl rfl rfl rfl rfl ?_
      (repeat (first | refine WL_nil ?_ | refine Then_normal ?_ | refine W_seq ?_))
      skip
      refine W_region rfl ?_
      refine WL_is (X_fieldAddr rfl rfl rfl (by simp only [Nat.zero_add] <;> rfl)) rfl rfl rfl ?_
      refine WL_is (X_loadA rfl rfl (by exact idx0) rfl rfl rfl) rfl rfl rfl ?_
      refine WL_is (X_move rfl rfl) rfl rfl rfl ?_
      refine WL_call rfl rfl rfl Try.func25 rfl rfl rfl rfl (chmodK_ref (h := H1) (a := a.acc) (b := mode) ⟨_, _, rfl, s1, s2⟩ hs.acc hm) ?_
      rintro _ _ H2 L2 ⟨⟨V, F, rfl, r1, r2⟩, rfl⟩
      obtain ⟨va, vc, rfl⟩ := r1.shape
      obtain ⟨fa, fc, rfl⟩ := r2.shape
      simp only [List.nil_append, aclV]
      refine WL_is (X_fieldAddr rfl rfl rfl (by simp only [Nat.zero_add] <;> rfl)) rfl rfl rfl ?_
      refine WL_store rfl rfl rfl (by exact idx0) rfl rfl rfl rfl rfl rfl rfl rfl rfl ?_
      (repeat (first | refine WL_nil ?_ | refine Then_normal ?_ | refine W_seq ?_))
      skip
      refine W_region rfl ?_
      refine WL_is (X_loadA rfl rfl (by exact idx3) rfl rfl rfl) rfl rfl rfl ?_
      refine WL_is (X_loadA rfl rfl (by exact idx0) rfl rfl rfl) rfl rfl rfl ?_
      refine WL_is (X_move rfl rfl) rfl rfl rfl ?_
      refine WL_call rfl rfl rfl Try.func46 rfl rfl rfl rfl (lost_ref H2 c _ (a.moded mode) _ kind (hc'.mono (L1.trans L2)) hcl ⟨_, _, _, _, _, rfl, r1, r2, s3.mono L2, s4.mono L2, s5.mono L2⟩ (Attr.moded_small hs)) ?_
      rintro _ _ H3 L3 ⟨hB, rfl⟩
      obtain ⟨_, _, _, _, _, _, _, _, _, _, rfl⟩ := hB.shape
      simp only [List.nil_append]
      refine WL_store rfl rfl rfl (by exact idx1) rfl rfl rfl rfl rfl rfl rfl rfl rfl ?_
      refine WL_is (X_assign rfl rfl) rfl rfl rfl ?_
      (repeat (first | refine WL_nil ?_ | refine Then_normal ?_ | refine W_ret ?_))
      refine Body_vals (.cons (.cellA rfl (by exact idx1) rfl rfl rfl) (.cons (.tmp rfl) .nil)) rfl (UpdE.sub (SubR.none _) ?_)
      exact ⟨⟨_, rfl, hB⟩, rfl⟩
end Go.Proofs.Ytligadbnoiibnaa
