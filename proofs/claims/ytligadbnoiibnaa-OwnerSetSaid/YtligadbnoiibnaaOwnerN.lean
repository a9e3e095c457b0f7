/- Who may turn attributes: the law on lists, and on who takes names out. -/
import Derived.Test.YtligadbnoiibnaaOwnerM
namespace Go.Proofs.Ytligadbnoiibnaa
set_option maxRecDepth 4000
open Go Go.Par PH
theorem setO_small {c : Cred} {a : Attr} {k w : Int} {l : Acl} (h : a.small) (hl : l.small) : (setO c a k w l).2.small := by
  unfold setO
  split
  · split
    · split
      · split
        · dsimp only
          split
          · exact loseO_small (Attr.acl1_small h hl)
          · split
            · exact ⟨h.acc, hl, h.xs, h.ks⟩
            · exact ⟨h.acc, ⟨Nat.zero_le _, Nat.zero_le _⟩, h.xs, h.ks⟩
        · exact attr0_sm
      · exact attr0_sm
    · exact attr0_sm
  · exact attr0_sm
attribute [local irreducible] W WL Does Exec Body Then inBlk RG WR row obj pblk
attribute [local irreducible] bits
set_option maxHeartbeats 4000000 in
theorem lists_law (h : PH) (c : Cred) (cv : Value) (a d : Attr) (v dv : Value) (kind which : Int) (l : Acl) (lv : Value) (hc : CredV h cv c) (hv : AttrV h v a) (hok : a.Ok) (hd : AttrV h dv d) (dok : d.Ok) (hl : AclV h lv l) (hlo : l.Ok) :
    Does Try.prog 3 [cv, v, dv, .int .u8 kind, .int .u8 which, lv] [] h (Ret fun r _ _ => r = .bool true) := by
  have c1 := large13_fn h c cv a v hc hv
  have c2 := fun h' (hl : le h h') => large13_fn h' c cv d dv (hc.mono hl) (hd.mono hl)
  have c3 := fun h' (hh : le h h') => large_fn h' l lv (hl.mono hh)
  have hc' := hc
  have hv' := hv
  have hd' := hd
  have hl' := hl
  obtain ⟨x, rfl, hx⟩ := hc
  obtain ⟨xa, xc, rfl⟩ := hx.shape
  obtain ⟨_, _, _, _, _, _, _, _, _, _, rfl⟩ := hv.shape
  obtain ⟨_, _, _, _, _, _, _, _, _, _, rfl⟩ := hd.shape
  obtain ⟨lu, lg, rfl, l1, l2⟩ := hl
  obtain ⟨y1, z1, rfl⟩ := l1.shape
  obtain ⟨y2, z2, rfl⟩ := l2.shape
  unfold aclV at c3
  unfold aclV
  refine Does_of_W Try.func3 rfl (n := 84) rfl rfl (by simp only [argE, Nat.reduceAdd] <;> rfl) ?_
  (repeat (first | refine W_seq ?_))
  skip
  refine W_region rfl ?_
  (refine WL_box rfl rfl rfl rfl rfl rfl ?_; intro b_)
  (refine WL_box rfl rfl rfl rfl rfl rfl ?_; intro b_)
  (refine WL_box rfl rfl rfl rfl rfl rfl ?_; intro b_)
  (refine WL_box rfl rfl rfl rfl rfl rfl ?_; intro b_)
  refine WL_is (X_assign rfl rfl) rfl rfl rfl ?_
  (repeat (first | refine WL_nil ?_ | refine Then_normal ?_ | refine W_seq ?_))
  skip
  refine W_region rfl ?_
  refine WL_is (X_loadA rfl rfl (by exact idx3) rfl rfl rfl) rfl rfl rfl ?_
  refine WL_is (X_loadA rfl rfl (by exact idx2) rfl rfl rfl) rfl rfl rfl ?_
  refine WL_call rfl rfl rfl Try.func8 rfl rfl rfl rfl c1 ?_
  rintro _ _ H1 L1 ⟨⟨b, rfl, hb⟩, rfl⟩
  simp only [List.nil_append]
  cases b with
  | true =>
    have al := alive_fn H1
    refine WL_is (X_move rfl rfl) rfl rfl rfl ?_
    refine WL_off rfl rfl rfl ?_
    refine WL_off rfl rfl rfl ?_
    refine WL_off rfl rfl rfl ?_
    refine WL_is (X_pick_t rfl rfl rfl) rfl rfl rfl ?_
    refine WL_is (X_move rfl rfl) rfl rfl rfl ?_
    refine WL_off rfl rfl rfl ?_
    refine WL_off rfl rfl rfl ?_
    refine WL_is (X_pick_t rfl rfl rfl) rfl rfl rfl ?_
    (repeat (first | refine WL_nil ?_ | refine Then_normal ?_ | refine W_seq ?_ | refine W_true rfl ?_))
    skip
    refine W_region rfl ?_
    refine WL_is (X_callv rfl rfl rfl Try.func10 rfl (by assumption)) rfl rfl rfl ?_
    refine WL_is (X_assign rfl rfl) rfl rfl rfl ?_
    (repeat (first | refine WL_nil ?_ | refine Then_normal ?_ | refine W_ret ?_ | refine Then_ret ?_))
    refine Body_end rfl rfl rfl (SubR.none _) ?_
    rfl
  | false =>
    obtain ⟨ht, h60⟩ := hb rfl
    have hs := ht.small
    have hcl : c.gs.length ≤ 1000 := by omega
    refine WL_is (X_move rfl rfl) rfl rfl rfl ?_
    refine WL_is (X_loadA rfl rfl (by exact idx3) rfl rfl rfl) rfl rfl rfl ?_
    refine WL_is (X_loadA rfl rfl (by exact idx1) rfl rfl rfl) rfl rfl rfl ?_
    refine WL_call rfl rfl rfl Try.func8 rfl rfl rfl rfl (c2 H1 L1) ?_
    rintro _ _ H2 L2 ⟨⟨b, rfl, hb⟩, rfl⟩
    simp only [List.nil_append]
    have al := alive_fn H2
    cases b with
    | true =>
      refine WL_is (X_pick_f rfl rfl rfl) rfl rfl rfl ?_
      refine WL_is (X_move rfl rfl) rfl rfl rfl ?_
      refine WL_off rfl rfl rfl ?_
      refine WL_off rfl rfl rfl ?_
      refine WL_is (X_pick_t rfl rfl rfl) rfl rfl rfl ?_
      (repeat (first | refine WL_nil ?_ | refine Then_normal ?_ | refine W_seq ?_ | refine W_true rfl ?_))
      skip
      refine W_region rfl ?_
      refine WL_is (X_callv rfl rfl rfl Try.func10 rfl (by assumption)) rfl rfl rfl ?_
      refine WL_is (X_assign rfl rfl) rfl rfl rfl ?_
      (repeat (first | refine WL_nil ?_ | refine Then_normal ?_ | refine W_ret ?_ | refine Then_ret ?_))
      refine Body_end rfl rfl rfl (SubR.none _) ?_
      rfl
    | false =>
      obtain ⟨dt, _⟩ := hb rfl
      have ds := dt.small
      have c4 := c3 H2 (L1.trans L2)
      by_cases hll : 100 < l.us.length ∨ 100 < l.gs.length
      · rw [decide_eq_true hll] at c4
        refine WL_is (X_pick_f rfl rfl rfl) rfl rfl rfl ?_
        refine WL_is (X_move rfl rfl) rfl rfl rfl ?_
        refine WL_is (X_loadA rfl rfl (by exact idx0) rfl rfl rfl) rfl rfl rfl ?_
        refine WL_is (X_callv rfl rfl rfl Try.func9 rfl (by assumption)) rfl rfl rfl ?_
        refine WL_is (X_pick_f rfl rfl rfl) rfl rfl rfl ?_
        (repeat (first | refine WL_nil ?_ | refine Then_normal ?_ | refine W_seq ?_ | refine W_true rfl ?_))
        skip
        refine W_region rfl ?_
        refine WL_is (X_callv rfl rfl rfl Try.func10 rfl (by assumption)) rfl rfl rfl ?_
        refine WL_is (X_assign rfl rfl) rfl rfl rfl ?_
        (repeat (first | refine WL_nil ?_ | refine Then_normal ?_ | refine W_ret ?_ | refine Then_ret ?_))
        refine Body_end rfl rfl rfl (SubR.none _) ?_
        rfl
      · rw [decide_eq_false hll] at c4
        have hls : l.small := by unfold Acl.small; omega
        have hc2 := hc'.mono (L1.trans L2)
        have hv2 := hv'.mono (L1.trans L2)
        have hd2 := hd'.mono (L1.trans L2)
        have hl2 := hl'.mono (L1.trans L2)
        unfold aclV at hl2
        refine WL_is (X_pick_f rfl rfl rfl) rfl rfl rfl ?_
        refine WL_is (X_move rfl rfl) rfl rfl rfl ?_
        refine WL_is (X_loadA rfl rfl (by exact idx0) rfl rfl rfl) rfl rfl rfl ?_
        refine WL_is (X_callv rfl rfl rfl Try.func9 rfl (by assumption)) rfl rfl rfl ?_
        refine WL_is (X_pick_f rfl rfl rfl) rfl rfl rfl ?_
        (repeat (first | refine WL_nil ?_ | refine Then_normal ?_ | refine W_seq ?_ | refine W_skip ?_ | refine W_false rfl ?_))
        skip
        refine W_draw0 6 rfl rfl rfl rfl ?_
        refine RG_val rfl rfl (fun _ => rfl) (fun _ => X_loadA rfl rfl (by exact idx2) rfl rfl rfl) ?_
        refine RG_callo (fun v h' => AttrV h' v a) (fun _ _ _ hl h => h.mono hl) rfl (fun _ => rfl) (fun _ => rfl) Try.func11 rfl rfl rfl (fun _ => rfl) (fun vs h' hl _ => (attrCopyK_ref h' a _ (hv2.mono hl) hs).wkn (fun _ _ _ _ h => h.1)) ?_
        refine RG_val rfl rfl (fun _ => rfl) (fun _ => X_loadA rfl rfl (by exact idx0) rfl rfl rfl) ?_
        refine RG_callo (fun v h' => AclV h' v l) (fun _ _ _ hl h => h.mono hl) rfl (fun _ => rfl) (fun _ => rfl) Try.func12 rfl rfl rfl (fun _ => rfl) (fun vs h' hl _ => (copyK_ref (hl2.mono hl) hls).wkn (fun _ _ _ _ h => h.1)) ?_
        refine RG_alloc rfl rfl rfl rfl rfl (fun _ => rfl) ?_
        refine RG_alloc rfl rfl rfl rfl rfl (fun _ => rfl) ?_
        refine RG_nil ?_
        refine RG_end rfl (fun vs => by simp only [endE, List.cons_append, List.nil_append] <;> rfl) (fun vs => by simp only [endR, List.cons_append, List.nil_append, List.append_nil] <;> rfl) (fun vs h' hf => hf) ?_
        rintro vs H3 L3 hF
        simp only [endF, Nat.zero_add, Nat.reduceAdd] at hF
        obtain ⟨⟨p5, e5⟩, ⟨p4, e4⟩, hL, hO, -⟩ := hF
        obtain ⟨f1, f2, e3, r1, r2⟩ := hL
        obtain ⟨_, _, rfl⟩ := r1.shape
        obtain ⟨_, _, rfl⟩ := r2.shape
        obtain ⟨_, _, _, _, _, _, _, _, _, _, e1⟩ := hO.shape
        rw [e1] at hO
        simp only [Nat.zero_add, Nat.reduceAdd, e5, e4, e3, e1, aclV, attrS, attrV]
        clear e5 e4 e3 e1
        refine WL_updE (UpdE.pblk 0 rfl) ?_
        rintro _ H3 - ⟨rfl, q5, e5, rfl⟩
        refine WL_updE (UpdE.pblk 1 rfl) ?_
        rintro _ H3 - ⟨rfl, q4, e4, rfl⟩
        cases e5; cases e4
        simp only [List.set_cons_zero, List.set_cons_succ]
        refine WL_store rfl rfl rfl (by exact idx1) rfl rfl rfl rfl rfl rfl rfl rfl rfl ?_
        refine WL_store rfl rfl rfl (by exact idx0) rfl rfl rfl rfl rfl rfl rfl rfl rfl ?_
        (repeat (first | refine WL_nil ?_ | refine Then_normal ?_ | refine W_seq ?_))
        skip
        refine W_region rfl ?_
        refine WL_is (X_loadA rfl rfl (by exact idx5) rfl rfl rfl) rfl rfl rfl ?_
        refine WL_is (X_loadA rfl rfl (by exact idx1) rfl rfl rfl) rfl rfl rfl ?_
        refine WL_is (X_move rfl rfl) rfl rfl rfl ?_
        refine WL_is (X_move rfl rfl) rfl rfl rfl ?_
        refine WL_is (X_loadA rfl rfl (by exact idx0) rfl rfl rfl) rfl rfl rfl ?_
        have hc3 := hc2.mono L3
        have hv3 := hv2.mono L3
        have hd3 := hd2.mono L3
        have hl3 : AclV H3 _ l := hl2.mono L3
        refine WL_call rfl rfl rfl Try.func13 rfl rfl rfl rfl (setacl_fn H3 c _ a _ kind which l _ hc3 hcl hO hs hok ⟨_, _, rfl, r1, r2⟩ hls hlo) ?_
        rintro _ _ H4 L4 ⟨⟨v1, rfl, hv4⟩, rfl⟩
        obtain ⟨_, _, _, _, _, _, _, _, _, _, rfl⟩ := hv4.shape
        simp only [List.nil_append]
        refine WL_is (X_move rfl rfl) rfl rfl rfl ?_
        refine WL_is (X_extract rfl rfl rfl) rfl rfl rfl ?_
        refine WL_is (X_extract rfl rfl rfl) rfl rfl rfl ?_
        (refine WL_alloc rfl rfl rfl rfl rfl rfl ?_; intro b_)
        refine WL_store rfl rfl rfl (by exact idx0) rfl rfl rfl rfl rfl rfl rfl rfl rfl ?_
        refine WL_is (X_assign rfl rfl) rfl rfl rfl ?_
        (repeat (first | refine WL_nil ?_ | refine Then_normal ?_ | refine W_seq ?_))
        skip
        refine W_region rfl ?_
        refine WL_is (X_loadA rfl rfl (by exact idx6) rfl rfl rfl) rfl rfl rfl ?_
        refine WL_is (X_loadA rfl rfl (by exact idx5) rfl rfl rfl) rfl rfl rfl ?_
        refine WL_is (X_move rfl rfl) rfl rfl rfl ?_
        refine WL_is (X_move rfl rfl) rfl rfl rfl ?_
        refine WL_is (X_loadA rfl rfl (by exact idx3) rfl rfl rfl) rfl rfl rfl ?_
        refine WL_call rfl rfl rfl Try.func14 rfl rfl rfl rfl (setacl_ref H4 c _ a _ kind which l _ (hc3.mono L4) hcl (hv3.mono L4) hs hok (hl3.mono L4) hls hlo) ?_
        rintro _ _ H5 L5 ⟨⟨v2, rfl, hv5⟩, rfl⟩
        obtain ⟨_, _, _, _, _, _, _, _, _, _, rfl⟩ := hv5.shape
        simp only [List.nil_append]
        have L35 := L4.trans L5
        have e1 := same13_ref H5 _ _ (setO c a kind which l).1 (setO c a kind which l).1 _ _ (hv4.mono L5) hv5 (setO_small hs hls) (setO_small hs hls)
        rw [decide_eq_true rfl, decide_eq_true rfl] at e1
        have hc5 := hc3.mono L35
        have hO5 := hO.mono L35
        have hv6 := hv3.mono L35
        have hd5 := hd3.mono L35
        have hl5 := hl3.mono L35
        have e4 := removes_ref H5 c _ d a _ _ hc5 hd5 hv6 hs hok ds dok
        have e5 := attrSame_ref H5 a a _ _ hO5 hv6 hs hs
        rw [decide_eq_true rfl] at e5
        generalize (setO c a kind which l).1 = n1 at *
        unfold credV at e4
        unfold attrS attrV at e1 e4 e5
        unfold attrS attrV
        refine WL_is (X_move rfl rfl) rfl rfl rfl ?_
        refine WL_is (X_extract rfl rfl rfl) rfl rfl rfl ?_
        refine WL_is (X_extract rfl rfl rfl) rfl rfl rfl ?_
        (refine WL_alloc rfl rfl rfl rfl rfl rfl ?_; intro b_)
        refine WL_store rfl rfl rfl (by exact idx0) rfl rfl rfl rfl rfl rfl rfl rfl rfl ?_
        refine WL_is (X_assign rfl rfl) rfl rfl rfl ?_
        (repeat (first | refine WL_nil ?_ | refine Then_normal ?_ | refine W_seq ?_))
        skip
        refine W_draw0 25 rfl rfl rfl rfl ?_
        refine RG_val rfl rfl (fun _ => rfl) (fun _ => X_loadA rfl rfl (by exact idx1) rfl rfl rfl) ?_
        refine RG_val rfl rfl (fun _ => rfl) (fun _ => X_move rfl rfl) ?_
        refine RG_val rfl rfl (fun _ => rfl) (fun _ => X_loadA rfl rfl (by exact idx0) rfl rfl rfl) ?_
        refine RG_val rfl rfl (fun _ => rfl) (fun _ => X_move rfl rfl) ?_
        refine RG_val rfl rfl (fun _ => rfl) (fun _ => X_callv rfl rfl rfl Try.func15 rfl (by assumption)) ?_
        refine RG_val rfl rfl (fun _ => rfl) (fun _ => X_move rfl rfl) ?_
        refine RG_val rfl rfl (fun _ => rfl) (fun _ => X_loadA rfl rfl (by exact idx7) rfl rfl rfl) ?_
        refine RG_val rfl rfl (fun _ => rfl) (fun _ => X_loadA rfl rfl (by exact idx5) rfl rfl rfl) ?_
        refine RG_callo (fun v h' => AttrV h' v d) (fun _ _ _ hl h => h.mono hl) rfl (fun _ => rfl) (fun _ => rfl) Try.func11 rfl rfl rfl (fun _ => rfl) (fun vs h' hl _ => (attrCopyK_ref h' d _ (hd5.mono hl) ds).wkn (fun _ _ _ _ h => h.1)) ?_
        refine RG_val rfl rfl (fun _ => rfl) (fun _ => X_loadA rfl rfl (by exact idx3) rfl rfl rfl) ?_
        refine RG_callv (.bool (removesO c d a)) rfl (fun _ => rfl) (fun vs => rfl) Try.func16 rfl rfl rfl (fun _ => rfl) (fun vs h' hl hf => removes_fn h' c _ d a (vs 8) _ (hc5.mono hl) hf.1 (hO5.mono hl) hs hok ds dok) ?_
        refine RG_val rfl rfl (fun _ => rfl) (fun _ => X_loadA rfl rfl (by exact idx7) rfl rfl rfl) ?_
        refine RG_val rfl rfl (fun _ => rfl) (fun _ => X_loadA rfl rfl (by exact idx5) rfl rfl rfl) ?_
        refine RG_val rfl rfl (fun _ => rfl) (fun _ => X_loadA rfl rfl (by exact idx6) rfl rfl rfl) ?_
        refine RG_val rfl rfl (fun _ => rfl) (fun _ => X_callv rfl rfl rfl Try.func17 rfl (by assumption)) ?_
        refine RG_val rfl rfl (fun _ => rfl) (fun _ => X_eqB_t rfl rfl rfl rfl (by rfl)) ?_
        refine RG_val rfl rfl (fun _ => rfl) (fun _ => X_pick_t rfl rfl rfl) ?_
        refine RG_val rfl rfl (fun _ => rfl) (fun _ => X_move rfl rfl) ?_
        refine RG_val rfl rfl (fun _ => rfl) (fun _ => X_loadA rfl rfl (by exact idx3) rfl rfl rfl) ?_
        refine RG_val rfl rfl (fun _ => rfl) (fun _ => X_loadA rfl rfl (by exact idx6) rfl rfl rfl) ?_
        refine RG_val rfl rfl (fun _ => rfl) (fun _ => X_callv rfl rfl rfl Try.func18 rfl (by assumption)) ?_
        refine RG_val rfl rfl (fun _ => rfl) (fun _ => X_pick_t rfl rfl rfl) ?_
        refine RG_val rfl rfl (fun _ => rfl) (fun _ => X_move rfl rfl) ?_
        refine RG_val rfl rfl (fun _ => rfl) (fun _ => X_loadA rfl rfl (by exact idx2) rfl rfl rfl) ?_
        refine RG_val rfl rfl (fun _ => rfl) (fun _ => X_loadA rfl rfl (by exact idx4) rfl rfl rfl) ?_
        refine RG_nil ?_
        refine RG_end rfl (fun vs => by simp only [endE, List.cons_append, List.nil_append] <;> rfl) (fun vs => by simp only [endR, List.nil_append, List.append_nil] <;> rfl) (fun vs h' hf => hf) ?_
        rintro vs h' hl -
        have e6 := same_acl_ref h' l l _ _ ⟨_, _, rfl, r1.mono (L35.trans hl), r2.mono (L35.trans hl)⟩ (hl5.mono hl) hls hls
        rw [decide_eq_true rfl] at e6
        unfold aclV at e6
        have al := alive_fn h'
        refine WL_is (X_callv rfl rfl rfl Try.func19 rfl (by assumption)) rfl rfl rfl ?_
        refine WL_is (X_pick_t rfl rfl rfl) rfl rfl rfl ?_
        refine WL_is (X_move rfl rfl) rfl rfl rfl ?_
        refine WL_is (X_callv rfl rfl rfl Try.func10 rfl (by assumption)) rfl rfl rfl ?_
        refine WL_is (X_pick_t rfl rfl rfl) rfl rfl rfl ?_
        refine WL_is (X_assign rfl rfl) rfl rfl rfl ?_
        (repeat (first | refine WL_nil ?_ | refine Then_normal ?_ | refine W_ret ?_))
        refine Body_end rfl rfl rfl (SubR.none _) ?_
        rfl
end Go.Proofs.Ytligadbnoiibnaa
