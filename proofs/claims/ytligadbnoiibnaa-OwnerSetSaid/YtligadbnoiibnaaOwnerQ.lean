/- Who may turn attributes: the walk of the law on what is written, or given away. -/
import Derived.Test.YtligadbnoiibnaaOwnerP
namespace Go.Proofs.Ytligadbnoiibnaa
set_option maxRecDepth 4000
open Go Go.Par PH
theorem chownO_clean {c : Cred} {a : Attr} {u g : Int} (hb : 0 ≤ a.bits ∧ a.bits ≤ 7) (hcls : a.acc.cls % 8 = a.acc.cls) (h : (chownO c a 1 u g).1 = 0) : cleanO (chownO c a 1 u g).2 = true := by
  unfold chownO at h ⊢
  split
  · rename_i h1
    rw [if_pos h1] at h
    split
    · rename_i h2
      rw [if_pos h2] at h
      split
      · rw [if_pos rfl]
        exact clean_goes (a := a.given u g) hb hcls
      · rename_i h3
        rw [if_neg h3] at h
        exact absurd h (by decide)
    · rename_i h2
      rw [if_neg h2] at h
      exact absurd h (by decide)
  · rename_i h1
    rw [if_neg h1] at h
    exact absurd h (by decide)
attribute [local irreducible] W WL Does Exec Body Then inBlk RG WR row obj pblk
attribute [local irreducible] bits
set_option maxHeartbeats 4000000 in
theorem set_law (h : PH) (c : Cred) (cv : Value) (a : Attr) (v : Value) (uid gid : Int) (hc : CredV h cv c) (hv : AttrV h v a) (hok : a.Ok) :
    Does Try.prog 7 [cv, v, .int .i64 uid, .int .i64 gid] [] h (Ret fun r _ _ => r = .bool true) := by
  have c1 := large13_fn h c cv a v hc hv
  have hc' := hc
  have hv' := hv
  obtain ⟨x, rfl, hx⟩ := hc
  obtain ⟨xa, xc, rfl⟩ := hx.shape
  obtain ⟨_, _, _, _, _, _, _, _, _, _, rfl⟩ := hv.shape
  refine Does_of_W Try.func7 rfl (n := 87) rfl rfl (by simp only [argE, Nat.reduceAdd] <;> rfl) ?_
  (repeat (first | refine W_seq ?_))
  skip
  refine W_region rfl ?_
  (refine WL_box rfl rfl rfl rfl rfl rfl ?_; intro b_)
  (refine WL_box rfl rfl rfl rfl rfl rfl ?_; intro b_)
  refine WL_is (X_assign rfl rfl) rfl rfl rfl ?_
  (repeat (first | refine WL_nil ?_ | refine Then_normal ?_ | refine W_seq ?_))
  skip
  refine W_region rfl ?_
  refine WL_is (X_loadA rfl rfl (by exact idx1) rfl rfl rfl) rfl rfl rfl ?_
  refine WL_is (X_loadA rfl rfl (by exact idx0) rfl rfl rfl) rfl rfl rfl ?_
  refine WL_call rfl rfl rfl Try.func8 rfl rfl rfl rfl c1 ?_
  rintro _ _ H1 L1 ⟨⟨b, rfl, hb⟩, rfl⟩
  simp only [List.nil_append]
  cases b with
  | true =>
    have al := alive_fn H1
    refine WL_is (X_move rfl rfl) rfl rfl rfl ?_
    refine WL_off rfl rfl rfl ?_
    refine WL_off rfl rfl rfl ?_
    refine WL_off rfl rfl rfl ?_
    refine WL_off rfl rfl rfl ?_
    refine WL_is (X_pick_t rfl rfl rfl) rfl rfl rfl ?_
    refine WL_is (X_move rfl rfl) rfl rfl rfl ?_
    refine WL_off rfl rfl rfl ?_
    refine WL_off rfl rfl rfl ?_
    refine WL_off rfl rfl rfl ?_
    refine WL_is (X_pick_t rfl rfl rfl) rfl rfl rfl ?_
    (repeat (first | refine WL_nil ?_ | refine Then_normal ?_ | refine W_seq ?_ | refine W_true rfl ?_))
    skip
    refine W_region rfl ?_
    refine WL_is (X_callv rfl rfl rfl Try.func10 rfl (by assumption)) rfl rfl rfl ?_
    refine WL_is (X_assign rfl rfl) rfl rfl rfl ?_
    (repeat (first | refine WL_nil ?_ | refine Then_normal ?_ | refine W_ret ?_ | refine Then_ret ?_))
    refine Body_end rfl rfl rfl (SubR.none _) ?_
    rfl
  | false =>
    obtain ⟨ht, h60⟩ := hb rfl
    have hs := ht.small
    have hcl : c.gs.length ≤ 1000 := by omega
    refine WL_is (X_move rfl rfl) rfl rfl rfl ?_
    refine WL_is (X_loadA rfl rfl (by exact idx0) rfl rfl rfl) rfl rfl rfl ?_
    refine WL_call rfl rfl rfl Try.func11 rfl rfl rfl rfl (attrCopyK_ref H1 a _ (hv'.mono L1) hs) ?_
    rintro _ _ H2 L2 ⟨hA, rfl⟩
    simp only [List.nil_append]
    have L12 := L1.trans L2
    have k1 := attrCheck_fn H2 a _ hA hs hok
    have hc2 := hc'.mono L12
    have hv2 := hv'.mono L12
    have k3 := credCheck_fn H2 c _ hc2
    unfold credV at k3
    have al := alive_fn H2
    cases ham : a.may with
    | false =>
      rw [ham, if_neg (by decide)] at k1
      refine WL_is (X_callv rfl rfl rfl Try.func20 rfl (by assumption)) rfl rfl rfl ?_
      refine WL_is (X_neq_t rfl rfl rfl (by omega)) rfl rfl rfl ?_
      refine WL_is (X_pick_f rfl rfl rfl) rfl rfl rfl ?_
      refine WL_is (X_move rfl rfl) rfl rfl rfl ?_
      refine WL_off rfl rfl rfl ?_
      refine WL_off rfl rfl rfl ?_
      refine WL_off rfl rfl rfl ?_
      refine WL_is (X_pick_t rfl rfl rfl) rfl rfl rfl ?_
      (repeat (first | refine WL_nil ?_ | refine Then_normal ?_ | refine W_seq ?_ | refine W_true rfl ?_))
      skip
      refine W_region rfl ?_
      refine WL_is (X_callv rfl rfl rfl Try.func10 rfl (by assumption)) rfl rfl rfl ?_
      refine WL_is (X_assign rfl rfl) rfl rfl rfl ?_
      (repeat (first | refine WL_nil ?_ | refine Then_normal ?_ | refine W_ret ?_ | refine Then_ret ?_))
      refine Body_end rfl rfl rfl (SubR.none _) ?_
      rfl
    | true =>
      rw [ham, if_pos rfl] at k1
      by_cases hl4 : c.gs.length ≤ 4
      · rw [if_pos hl4] at k3
        have hma : mayO c a = true := by unfold mayO; rw [decide_eq_true hl4, ham]; rfl
        have hb7 := Attr.bits7 ham
        have hcls : a.acc.cls % 8 = a.acc.cls := Acl.cls_7 hok.acc (Attr.may_acc ham)
        refine WL_is (X_callv rfl rfl rfl Try.func20 rfl (by assumption)) rfl rfl rfl ?_
        refine WL_is (X_neq_f rfl rfl rfl (by omega)) rfl rfl rfl ?_
        refine WL_is (X_pick_f rfl rfl rfl) rfl rfl rfl ?_
        refine WL_is (X_move rfl rfl) rfl rfl rfl ?_
        refine WL_is (X_loadA rfl rfl (by exact idx1) rfl rfl rfl) rfl rfl rfl ?_
        refine WL_is (X_callv rfl rfl rfl Try.func26 rfl (by assumption)) rfl rfl rfl ?_
        refine WL_is (X_neq_f rfl rfl rfl (by omega)) rfl rfl rfl ?_
        refine WL_is (X_pick_f rfl rfl rfl) rfl rfl rfl ?_
        (repeat (first | refine WL_nil ?_ | refine Then_normal ?_ | refine W_seq ?_ | refine W_skip ?_ | refine W_false rfl ?_))
        skip
        refine W_region rfl ?_
        refine WL_is (X_loadA rfl rfl (by exact idx1) rfl rfl rfl) rfl rfl rfl ?_
        refine WL_is (X_loadA rfl rfl (by exact idx0) rfl rfl rfl) rfl rfl rfl ?_
        refine WL_call rfl rfl rfl Try.func30 rfl rfl rfl rfl (written_fn H2 c _ a _ hc2 hv2 hs hok) ?_
        rintro _ _ H3 L3 ⟨hW, rfl⟩
        obtain ⟨m1, m2, m3, m4, m5, n1, n2, n3, n4, n5, rfl⟩ := hW.shape
        simp only [List.nil_append]
        (refine WL_alloc rfl rfl rfl rfl rfl rfl ?_; intro b_)
        refine WL_store rfl rfl rfl (by exact idx0) rfl rfl rfl rfl rfl rfl rfl rfl rfl ?_
        (repeat (first | refine WL_nil ?_ | refine Then_normal ?_ | refine W_seq ?_))
        skip
        refine W_region rfl ?_
        refine WL_is (X_loadA rfl rfl (by exact idx2) rfl rfl rfl) rfl rfl rfl ?_
        refine WL_is (X_loadA rfl rfl (by exact idx1) rfl rfl rfl) rfl rfl rfl ?_
        refine WL_is (X_move rfl rfl) rfl rfl rfl ?_
        refine WL_is (X_move rfl rfl) rfl rfl rfl ?_
        refine WL_call rfl rfl rfl Try.func22 rfl rfl rfl rfl (chown13_fn H3 c _ a _ 1 uid gid (hc2.mono L3) hcl (hv2.mono L3) hs hok) ?_
        rintro _ _ H4 L4 ⟨⟨v1, rfl, hv4⟩, rfl⟩
        obtain ⟨_, _, _, _, _, _, _, _, _, _, rfl⟩ := hv4.shape
        simp only [List.nil_append]
        have L34 := L3.trans L4
        have hc4 := hc2.mono L34
        have hv5 := hv2.mono L34
        have hW4 := hW.mono L4
        have q1 := clean_ref H4 _ _ hW4
        have q2 := clean_ref H4 _ _ hv4
        have q3 : (chownO c a 1 uid gid).1 = 0 → cleanO (chownO c a 1 uid gid).2 = true := chownO_clean ⟨hok.bits.1, hb7⟩ hcls
        have q4 : c.uid ≠ 0 → cleanO (writtenO c a) = true := fun hu => by
          unfold writtenO
          rw [if_pos hma, if_neg hu]
          exact clean_goes ⟨hok.bits.1, hb7⟩ hcls
        have q5 : c.uid = 0 → (writtenO c a).bits = a.bits := fun hu => by
          unfold writtenO
          rw [if_pos hma, if_pos hu]
        have hB : AttrV H4 (attrS ((writtenO c a).wb a.bits) m1 m2 m3 m4 m5 n1 n2 n3 n4 n5) ((writtenO c a).wb a.bits) := hW4.wb
        have e1 := attrSame_ref H4 _ a _ _ hB hv5 (Attr.wb_small (writtenO_small hs)) hs
        rw [decide_eq_true (writtenO_back hma)] at e1
        have wok := writtenO_ok hma hok hb7
        have wsm := writtenO_small (c := c) hs
        have wtw := writtenO_twice hma hok ham
        generalize hY : (chownO c a 1 uid gid).2 = Y at *
        generalize hE : (chownO c a 1 uid gid).1 = e at *
        unfold attrS attrV at q1 q2 e1
        unfold attrS attrV
        by_cases hu : c.uid = 0
        · have q6 := q5 hu
          by_cases he : e = 0
          · have q7 := q3 he
            rw [q7] at q2
            refine WL_is (X_move rfl rfl) rfl rfl rfl ?_
            refine WL_is (X_extract rfl rfl rfl) rfl rfl rfl ?_
            refine WL_is (X_extract rfl rfl rfl) rfl rfl rfl ?_
            (refine WL_alloc rfl rfl rfl rfl rfl rfl ?_; intro b_)
            refine WL_store rfl rfl rfl (by exact idx0) rfl rfl rfl rfl rfl rfl rfl rfl rfl ?_
            refine WL_is (X_assign rfl rfl) rfl rfl rfl ?_
            (repeat (first | refine WL_nil ?_ | refine Then_normal ?_ | refine W_seq ?_))
            skip
            refine W_region rfl ?_
            refine WL_is (X_fieldAddr rfl rfl rfl (by simp only [Nat.zero_add] <;> rfl)) rfl rfl rfl ?_
            refine WL_is (X_load1 rfl rfl (by exact idx3) rfl rfl) rfl rfl rfl ?_
            refine WL_is (X_neq_f rfl rfl rfl (by omega)) rfl rfl rfl ?_
            refine WL_is (X_move rfl rfl) rfl rfl rfl ?_
            refine WL_off rfl rfl rfl ?_
            refine WL_off rfl rfl rfl ?_
            refine WL_off rfl rfl rfl ?_
            refine WL_is (X_pick_f rfl rfl rfl) rfl rfl rfl ?_
            refine WL_is (X_move rfl rfl) rfl rfl rfl ?_
            refine WL_is (X_move rfl rfl) rfl rfl rfl ?_
            refine WL_is (X_eql_t rfl rfl rfl (by omega)) rfl rfl rfl ?_
            refine WL_is (X_move rfl rfl) rfl rfl rfl ?_
            refine WL_is (X_loadA rfl rfl (by exact idx0) rfl rfl rfl) rfl rfl rfl ?_
            refine WL_is (X_callv rfl rfl rfl Try.func32 rfl (by assumption)) rfl rfl rfl ?_
            refine WL_is (X_not rfl rfl) rfl rfl rfl ?_
            refine WL_is (X_pick_t rfl rfl rfl) rfl rfl rfl ?_
            refine WL_is (X_pick_f rfl rfl rfl) rfl rfl rfl ?_
            refine WL_is (X_move rfl rfl) rfl rfl rfl ?_
            refine WL_is (X_fieldAddr rfl rfl rfl (by simp only [Nat.zero_add] <;> rfl)) rfl rfl rfl ?_
            refine WL_is (X_load1 rfl rfl (by exact idx3) rfl rfl) rfl rfl rfl ?_
            refine WL_is (X_eql_t rfl rfl rfl (by omega)) rfl rfl rfl ?_
            refine WL_is (X_move rfl rfl) rfl rfl rfl ?_
            refine WL_is (X_fieldAddr rfl rfl rfl (by simp only [Nat.zero_add] <;> rfl)) rfl rfl rfl ?_
            refine WL_is (X_load1 rfl rfl (by exact idx1) rfl rfl) rfl rfl rfl ?_
            refine WL_is (X_fieldAddr rfl rfl rfl (by simp only [Nat.zero_add] <;> rfl)) rfl rfl rfl ?_
            refine WL_is (X_load1 rfl rfl (by exact idx2) rfl rfl) rfl rfl rfl ?_
            refine WL_is (X_neq_f rfl rfl rfl (by omega)) rfl rfl rfl ?_
            refine WL_is (X_pick_t rfl rfl rfl) rfl rfl rfl ?_
            refine WL_is (X_pick_f rfl rfl rfl) rfl rfl rfl ?_
            (repeat (first | refine WL_nil ?_ | refine Then_normal ?_ | refine W_seq ?_ | refine W_skip ?_ | refine W_false rfl ?_))
            skip
            refine W_region rfl ?_
            refine WL_is (X_fieldAddr rfl rfl rfl (by simp only [Nat.zero_add] <;> rfl)) rfl rfl rfl ?_
            refine WL_is (X_load1 rfl rfl (by exact idx2) rfl rfl) rfl rfl rfl ?_
            refine WL_is (X_fieldAddr rfl rfl rfl (by simp only [Nat.zero_add] <;> rfl)) rfl rfl rfl ?_
            refine WL_store rfl rfl rfl (by exact idx1) rfl rfl rfl rfl rfl rfl rfl rfl rfl ?_
            (repeat (first | refine WL_nil ?_ | refine Then_normal ?_ | refine W_seq ?_))
            skip
            refine W_draw0 11 rfl rfl rfl rfl ?_
            refine RG_val rfl rfl (fun _ => rfl) (fun _ => X_loadA rfl rfl (by exact idx1) rfl rfl rfl) ?_
            refine RG_val rfl rfl (fun _ => rfl) (fun _ => X_loadA rfl rfl (by exact idx2) rfl rfl rfl) ?_
            refine RG_val rfl rfl (fun _ => rfl) (fun _ => X_callv rfl rfl rfl Try.func18 rfl (by assumption)) ?_
            refine RG_val rfl rfl (fun _ => rfl) (fun _ => X_move rfl rfl) ?_
            refine RG_val rfl rfl (fun _ => rfl) (fun _ => X_loadA rfl rfl (by exact idx3) rfl rfl rfl) ?_
            refine RG_val rfl rfl (fun _ => rfl) (fun _ => X_loadA rfl rfl (by exact idx3) rfl rfl rfl) ?_
            refine RG_val rfl rfl (fun _ => rfl) (fun _ => X_loadA rfl rfl (by exact idx2) rfl rfl rfl) ?_
            refine RG_callo (fun v h' => AttrV h' v (writtenO c a)) (fun _ _ _ hl h => h.mono hl) rfl (fun _ => rfl) (fun _ => rfl) Try.func30 rfl rfl rfl (fun _ => rfl) (fun vs h' hl _ => (written_fn h' c _ a _ (hc4.mono hl) (hv5.mono hl) hs hok).wkn (fun _ _ _ _ h => h.1)) ?_
            refine RG_callo (fun v h' => AttrV h' v (writtenO c (writtenO c a))) (fun _ _ _ hl h => h.mono hl) rfl (fun _ => rfl) (fun _ => rfl) Try.func30 rfl rfl rfl (fun _ => rfl) (fun vs h' hl hf => (written_fn h' c _ (writtenO c a) (vs 7) (hc4.mono hl) hf.1 wsm wok).wkn (fun _ _ _ _ h => h.1)) ?_
            refine RG_val rfl rfl (fun _ => rfl) (fun _ => X_loadA rfl rfl (by exact idx3) rfl rfl rfl) ?_
            refine RG_val rfl rfl (fun _ => rfl) (fun _ => X_loadA rfl rfl (by exact idx2) rfl rfl rfl) ?_
            refine RG_nil ?_
            refine RG_end rfl (fun vs => by simp only [endE, List.cons_append, List.nil_append] <;> rfl) (fun vs => by simp only [endR, List.nil_append, List.append_nil] <;> rfl) (fun vs h' hf => hf) ?_
            rintro vs h' hl hf
            have hf1 : AttrV h' (vs 8) (writtenO c (writtenO c a)) := hf.1
            clear hf
            rw [wtw] at hf1
            generalize vs 8 = w8 at *
            generalize vs 7 = w7 at *
            refine WL_call rfl rfl rfl Try.func30 rfl rfl rfl rfl (written_fn h' c _ a _ (hc4.mono hl) (hv5.mono hl) hs hok) ?_
            rintro w11 _ h2 l2 ⟨hw11, rfl⟩
            simp only [List.nil_append]
            have e5 := attrSame_ref h2 _ _ w8 w11 (hf1.mono l2) hw11 wsm wsm
            rw [decide_eq_true rfl] at e5
            have al := alive_fn h2
            refine WL_is (X_callv rfl rfl rfl Try.func18 rfl (by assumption)) rfl rfl rfl ?_
            refine WL_is (X_pick_t rfl rfl rfl) rfl rfl rfl ?_
            refine WL_is (X_move rfl rfl) rfl rfl rfl ?_
            refine WL_is (X_callv rfl rfl rfl Try.func10 rfl (by assumption)) rfl rfl rfl ?_
            refine WL_is (X_pick_t rfl rfl rfl) rfl rfl rfl ?_
            refine WL_is (X_assign rfl rfl) rfl rfl rfl ?_
            (repeat (first | refine WL_nil ?_ | refine Then_normal ?_ | refine W_ret ?_))
            refine Body_end rfl rfl rfl (SubR.none _) ?_
            rfl
          · refine WL_is (X_move rfl rfl) rfl rfl rfl ?_
            refine WL_is (X_extract rfl rfl rfl) rfl rfl rfl ?_
            refine WL_is (X_extract rfl rfl rfl) rfl rfl rfl ?_
            (refine WL_alloc rfl rfl rfl rfl rfl rfl ?_; intro b_)
            refine WL_store rfl rfl rfl (by exact idx0) rfl rfl rfl rfl rfl rfl rfl rfl rfl ?_
            refine WL_is (X_assign rfl rfl) rfl rfl rfl ?_
            (repeat (first | refine WL_nil ?_ | refine Then_normal ?_ | refine W_seq ?_))
            skip
            refine W_region rfl ?_
            refine WL_is (X_fieldAddr rfl rfl rfl (by simp only [Nat.zero_add] <;> rfl)) rfl rfl rfl ?_
            refine WL_is (X_load1 rfl rfl (by exact idx3) rfl rfl) rfl rfl rfl ?_
            refine WL_is (X_neq_f rfl rfl rfl (by omega)) rfl rfl rfl ?_
            refine WL_is (X_move rfl rfl) rfl rfl rfl ?_
            refine WL_off rfl rfl rfl ?_
            refine WL_off rfl rfl rfl ?_
            refine WL_off rfl rfl rfl ?_
            refine WL_is (X_pick_f rfl rfl rfl) rfl rfl rfl ?_
            refine WL_is (X_move rfl rfl) rfl rfl rfl ?_
            refine WL_is (X_move rfl rfl) rfl rfl rfl ?_
            refine WL_is (X_eql_f rfl rfl rfl (by omega)) rfl rfl rfl ?_
            refine WL_is (X_move rfl rfl) rfl rfl rfl ?_
            refine WL_off rfl rfl rfl ?_
            refine WL_off rfl rfl rfl ?_
            refine WL_off rfl rfl rfl ?_
            refine WL_is (X_pick_f rfl rfl rfl) rfl rfl rfl ?_
            refine WL_is (X_pick_f rfl rfl rfl) rfl rfl rfl ?_
            refine WL_is (X_move rfl rfl) rfl rfl rfl ?_
            refine WL_is (X_fieldAddr rfl rfl rfl (by simp only [Nat.zero_add] <;> rfl)) rfl rfl rfl ?_
            refine WL_is (X_load1 rfl rfl (by exact idx3) rfl rfl) rfl rfl rfl ?_
            refine WL_is (X_eql_t rfl rfl rfl (by omega)) rfl rfl rfl ?_
            refine WL_is (X_move rfl rfl) rfl rfl rfl ?_
            refine WL_is (X_fieldAddr rfl rfl rfl (by simp only [Nat.zero_add] <;> rfl)) rfl rfl rfl ?_
            refine WL_is (X_load1 rfl rfl (by exact idx1) rfl rfl) rfl rfl rfl ?_
            refine WL_is (X_fieldAddr rfl rfl rfl (by simp only [Nat.zero_add] <;> rfl)) rfl rfl rfl ?_
            refine WL_is (X_load1 rfl rfl (by exact idx2) rfl rfl) rfl rfl rfl ?_
            refine WL_is (X_neq_f rfl rfl rfl (by omega)) rfl rfl rfl ?_
            refine WL_is (X_pick_t rfl rfl rfl) rfl rfl rfl ?_
            refine WL_is (X_pick_f rfl rfl rfl) rfl rfl rfl ?_
            (repeat (first | refine WL_nil ?_ | refine Then_normal ?_ | refine W_seq ?_ | refine W_skip ?_ | refine W_false rfl ?_))
            skip
            refine W_region rfl ?_
            refine WL_is (X_fieldAddr rfl rfl rfl (by simp only [Nat.zero_add] <;> rfl)) rfl rfl rfl ?_
            refine WL_is (X_load1 rfl rfl (by exact idx2) rfl rfl) rfl rfl rfl ?_
            refine WL_is (X_fieldAddr rfl rfl rfl (by simp only [Nat.zero_add] <;> rfl)) rfl rfl rfl ?_
            refine WL_store rfl rfl rfl (by exact idx1) rfl rfl rfl rfl rfl rfl rfl rfl rfl ?_
            (repeat (first | refine WL_nil ?_ | refine Then_normal ?_ | refine W_seq ?_))
            skip
            refine W_draw0 11 rfl rfl rfl rfl ?_
            refine RG_val rfl rfl (fun _ => rfl) (fun _ => X_loadA rfl rfl (by exact idx1) rfl rfl rfl) ?_
            refine RG_val rfl rfl (fun _ => rfl) (fun _ => X_loadA rfl rfl (by exact idx2) rfl rfl rfl) ?_
            refine RG_val rfl rfl (fun _ => rfl) (fun _ => X_callv rfl rfl rfl Try.func18 rfl (by assumption)) ?_
            refine RG_val rfl rfl (fun _ => rfl) (fun _ => X_move rfl rfl) ?_
            refine RG_val rfl rfl (fun _ => rfl) (fun _ => X_loadA rfl rfl (by exact idx3) rfl rfl rfl) ?_
            refine RG_val rfl rfl (fun _ => rfl) (fun _ => X_loadA rfl rfl (by exact idx3) rfl rfl rfl) ?_
            refine RG_val rfl rfl (fun _ => rfl) (fun _ => X_loadA rfl rfl (by exact idx2) rfl rfl rfl) ?_
            refine RG_callo (fun v h' => AttrV h' v (writtenO c a)) (fun _ _ _ hl h => h.mono hl) rfl (fun _ => rfl) (fun _ => rfl) Try.func30 rfl rfl rfl (fun _ => rfl) (fun vs h' hl _ => (written_fn h' c _ a _ (hc4.mono hl) (hv5.mono hl) hs hok).wkn (fun _ _ _ _ h => h.1)) ?_
            refine RG_callo (fun v h' => AttrV h' v (writtenO c (writtenO c a))) (fun _ _ _ hl h => h.mono hl) rfl (fun _ => rfl) (fun _ => rfl) Try.func30 rfl rfl rfl (fun _ => rfl) (fun vs h' hl hf => (written_fn h' c _ (writtenO c a) (vs 7) (hc4.mono hl) hf.1 wsm wok).wkn (fun _ _ _ _ h => h.1)) ?_
            refine RG_val rfl rfl (fun _ => rfl) (fun _ => X_loadA rfl rfl (by exact idx3) rfl rfl rfl) ?_
            refine RG_val rfl rfl (fun _ => rfl) (fun _ => X_loadA rfl rfl (by exact idx2) rfl rfl rfl) ?_
            refine RG_nil ?_
            refine RG_end rfl (fun vs => by simp only [endE, List.cons_append, List.nil_append] <;> rfl) (fun vs => by simp only [endR, List.nil_append, List.append_nil] <;> rfl) (fun vs h' hf => hf) ?_
            rintro vs h' hl hf
            have hf1 : AttrV h' (vs 8) (writtenO c (writtenO c a)) := hf.1
            clear hf
            rw [wtw] at hf1
            generalize vs 8 = w8 at *
            generalize vs 7 = w7 at *
            refine WL_call rfl rfl rfl Try.func30 rfl rfl rfl rfl (written_fn h' c _ a _ (hc4.mono hl) (hv5.mono hl) hs hok) ?_
            rintro w11 _ h2 l2 ⟨hw11, rfl⟩
            simp only [List.nil_append]
            have e5 := attrSame_ref h2 _ _ w8 w11 (hf1.mono l2) hw11 wsm wsm
            rw [decide_eq_true rfl] at e5
            have al := alive_fn h2
            refine WL_is (X_callv rfl rfl rfl Try.func18 rfl (by assumption)) rfl rfl rfl ?_
            refine WL_is (X_pick_t rfl rfl rfl) rfl rfl rfl ?_
            refine WL_is (X_move rfl rfl) rfl rfl rfl ?_
            refine WL_is (X_callv rfl rfl rfl Try.func10 rfl (by assumption)) rfl rfl rfl ?_
            refine WL_is (X_pick_t rfl rfl rfl) rfl rfl rfl ?_
            refine WL_is (X_assign rfl rfl) rfl rfl rfl ?_
            (repeat (first | refine WL_nil ?_ | refine Then_normal ?_ | refine W_ret ?_))
            refine Body_end rfl rfl rfl (SubR.none _) ?_
            rfl
        · have q6 := q4 hu
          rw [q6] at q1
          by_cases he : e = 0
          · have q7 := q3 he
            rw [q7] at q2
            refine WL_is (X_move rfl rfl) rfl rfl rfl ?_
            refine WL_is (X_extract rfl rfl rfl) rfl rfl rfl ?_
            refine WL_is (X_extract rfl rfl rfl) rfl rfl rfl ?_
            (refine WL_alloc rfl rfl rfl rfl rfl rfl ?_; intro b_)
            refine WL_store rfl rfl rfl (by exact idx0) rfl rfl rfl rfl rfl rfl rfl rfl rfl ?_
            refine WL_is (X_assign rfl rfl) rfl rfl rfl ?_
            (repeat (first | refine WL_nil ?_ | refine Then_normal ?_ | refine W_seq ?_))
            skip
            refine W_region rfl ?_
            refine WL_is (X_fieldAddr rfl rfl rfl (by simp only [Nat.zero_add] <;> rfl)) rfl rfl rfl ?_
            refine WL_is (X_load1 rfl rfl (by exact idx3) rfl rfl) rfl rfl rfl ?_
            refine WL_is (X_neq_t rfl rfl rfl (by omega)) rfl rfl rfl ?_
            refine WL_is (X_move rfl rfl) rfl rfl rfl ?_
            refine WL_is (X_loadA rfl rfl (by exact idx1) rfl rfl rfl) rfl rfl rfl ?_
            refine WL_is (X_callv rfl rfl rfl Try.func32 rfl (by assumption)) rfl rfl rfl ?_
            refine WL_is (X_not rfl rfl) rfl rfl rfl ?_
            refine WL_is (X_pick_t rfl rfl rfl) rfl rfl rfl ?_
            refine WL_is (X_move rfl rfl) rfl rfl rfl ?_
            refine WL_is (X_move rfl rfl) rfl rfl rfl ?_
            refine WL_is (X_eql_t rfl rfl rfl (by omega)) rfl rfl rfl ?_
            refine WL_is (X_move rfl rfl) rfl rfl rfl ?_
            refine WL_is (X_loadA rfl rfl (by exact idx0) rfl rfl rfl) rfl rfl rfl ?_
            refine WL_is (X_callv rfl rfl rfl Try.func32 rfl (by assumption)) rfl rfl rfl ?_
            refine WL_is (X_not rfl rfl) rfl rfl rfl ?_
            refine WL_is (X_pick_t rfl rfl rfl) rfl rfl rfl ?_
            refine WL_is (X_pick_f rfl rfl rfl) rfl rfl rfl ?_
            refine WL_is (X_move rfl rfl) rfl rfl rfl ?_
            refine WL_is (X_fieldAddr rfl rfl rfl (by simp only [Nat.zero_add] <;> rfl)) rfl rfl rfl ?_
            refine WL_is (X_load1 rfl rfl (by exact idx3) rfl rfl) rfl rfl rfl ?_
            refine WL_is (X_eql_f rfl rfl rfl (by omega)) rfl rfl rfl ?_
            refine WL_is (X_move rfl rfl) rfl rfl rfl ?_
            refine WL_off rfl rfl rfl ?_
            refine WL_off rfl rfl rfl ?_
            refine WL_off rfl rfl rfl ?_
            refine WL_off rfl rfl rfl ?_
            refine WL_off rfl rfl rfl ?_
            refine WL_is (X_pick_f rfl rfl rfl) rfl rfl rfl ?_
            refine WL_is (X_pick_f rfl rfl rfl) rfl rfl rfl ?_
            (repeat (first | refine WL_nil ?_ | refine Then_normal ?_ | refine W_seq ?_ | refine W_skip ?_ | refine W_false rfl ?_))
            skip
            refine W_region rfl ?_
            refine WL_is (X_fieldAddr rfl rfl rfl (by simp only [Nat.zero_add] <;> rfl)) rfl rfl rfl ?_
            refine WL_is (X_load1 rfl rfl (by exact idx2) rfl rfl) rfl rfl rfl ?_
            refine WL_is (X_fieldAddr rfl rfl rfl (by simp only [Nat.zero_add] <;> rfl)) rfl rfl rfl ?_
            refine WL_store rfl rfl rfl (by exact idx1) rfl rfl rfl rfl rfl rfl rfl rfl rfl ?_
            (repeat (first | refine WL_nil ?_ | refine Then_normal ?_ | refine W_seq ?_))
            skip
            refine W_draw0 11 rfl rfl rfl rfl ?_
            refine RG_val rfl rfl (fun _ => rfl) (fun _ => X_loadA rfl rfl (by exact idx1) rfl rfl rfl) ?_
            refine RG_val rfl rfl (fun _ => rfl) (fun _ => X_loadA rfl rfl (by exact idx2) rfl rfl rfl) ?_
            refine RG_val rfl rfl (fun _ => rfl) (fun _ => X_callv rfl rfl rfl Try.func18 rfl (by assumption)) ?_
            refine RG_val rfl rfl (fun _ => rfl) (fun _ => X_move rfl rfl) ?_
            refine RG_val rfl rfl (fun _ => rfl) (fun _ => X_loadA rfl rfl (by exact idx3) rfl rfl rfl) ?_
            refine RG_val rfl rfl (fun _ => rfl) (fun _ => X_loadA rfl rfl (by exact idx3) rfl rfl rfl) ?_
            refine RG_val rfl rfl (fun _ => rfl) (fun _ => X_loadA rfl rfl (by exact idx2) rfl rfl rfl) ?_
            refine RG_callo (fun v h' => AttrV h' v (writtenO c a)) (fun _ _ _ hl h => h.mono hl) rfl (fun _ => rfl) (fun _ => rfl) Try.func30 rfl rfl rfl (fun _ => rfl) (fun vs h' hl _ => (written_fn h' c _ a _ (hc4.mono hl) (hv5.mono hl) hs hok).wkn (fun _ _ _ _ h => h.1)) ?_
            refine RG_callo (fun v h' => AttrV h' v (writtenO c (writtenO c a))) (fun _ _ _ hl h => h.mono hl) rfl (fun _ => rfl) (fun _ => rfl) Try.func30 rfl rfl rfl (fun _ => rfl) (fun vs h' hl hf => (written_fn h' c _ (writtenO c a) (vs 7) (hc4.mono hl) hf.1 wsm wok).wkn (fun _ _ _ _ h => h.1)) ?_
            refine RG_val rfl rfl (fun _ => rfl) (fun _ => X_loadA rfl rfl (by exact idx3) rfl rfl rfl) ?_
            refine RG_val rfl rfl (fun _ => rfl) (fun _ => X_loadA rfl rfl (by exact idx2) rfl rfl rfl) ?_
            refine RG_nil ?_
            refine RG_end rfl (fun vs => by simp only [endE, List.cons_append, List.nil_append] <;> rfl) (fun vs => by simp only [endR, List.nil_append, List.append_nil] <;> rfl) (fun vs h' hf => hf) ?_
            rintro vs h' hl hf
            have hf1 : AttrV h' (vs 8) (writtenO c (writtenO c a)) := hf.1
            clear hf
            rw [wtw] at hf1
            generalize vs 8 = w8 at *
            generalize vs 7 = w7 at *
            refine WL_call rfl rfl rfl Try.func30 rfl rfl rfl rfl (written_fn h' c _ a _ (hc4.mono hl) (hv5.mono hl) hs hok) ?_
            rintro w11 _ h2 l2 ⟨hw11, rfl⟩
            simp only [List.nil_append]
            have e5 := attrSame_ref h2 _ _ w8 w11 (hf1.mono l2) hw11 wsm wsm
            rw [decide_eq_true rfl] at e5
            have al := alive_fn h2
            refine WL_is (X_callv rfl rfl rfl Try.func18 rfl (by assumption)) rfl rfl rfl ?_
            refine WL_is (X_pick_t rfl rfl rfl) rfl rfl rfl ?_
            refine WL_is (X_move rfl rfl) rfl rfl rfl ?_
            refine WL_is (X_callv rfl rfl rfl Try.func10 rfl (by assumption)) rfl rfl rfl ?_
            refine WL_is (X_pick_t rfl rfl rfl) rfl rfl rfl ?_
            refine WL_is (X_assign rfl rfl) rfl rfl rfl ?_
            (repeat (first | refine WL_nil ?_ | refine Then_normal ?_ | refine W_ret ?_))
            refine Body_end rfl rfl rfl (SubR.none _) ?_
            rfl
          · refine WL_is (X_move rfl rfl) rfl rfl rfl ?_
            refine WL_is (X_extract rfl rfl rfl) rfl rfl rfl ?_
            refine WL_is (X_extract rfl rfl rfl) rfl rfl rfl ?_
            (refine WL_alloc rfl rfl rfl rfl rfl rfl ?_; intro b_)
            refine WL_store rfl rfl rfl (by exact idx0) rfl rfl rfl rfl rfl rfl rfl rfl rfl ?_
            refine WL_is (X_assign rfl rfl) rfl rfl rfl ?_
            (repeat (first | refine WL_nil ?_ | refine Then_normal ?_ | refine W_seq ?_))
            skip
            refine W_region rfl ?_
            refine WL_is (X_fieldAddr rfl rfl rfl (by simp only [Nat.zero_add] <;> rfl)) rfl rfl rfl ?_
            refine WL_is (X_load1 rfl rfl (by exact idx3) rfl rfl) rfl rfl rfl ?_
            refine WL_is (X_neq_t rfl rfl rfl (by omega)) rfl rfl rfl ?_
            refine WL_is (X_move rfl rfl) rfl rfl rfl ?_
            refine WL_is (X_loadA rfl rfl (by exact idx1) rfl rfl rfl) rfl rfl rfl ?_
            refine WL_is (X_callv rfl rfl rfl Try.func32 rfl (by assumption)) rfl rfl rfl ?_
            refine WL_is (X_not rfl rfl) rfl rfl rfl ?_
            refine WL_is (X_pick_t rfl rfl rfl) rfl rfl rfl ?_
            refine WL_is (X_move rfl rfl) rfl rfl rfl ?_
            refine WL_is (X_move rfl rfl) rfl rfl rfl ?_
            refine WL_is (X_eql_f rfl rfl rfl (by omega)) rfl rfl rfl ?_
            refine WL_is (X_move rfl rfl) rfl rfl rfl ?_
            refine WL_off rfl rfl rfl ?_
            refine WL_off rfl rfl rfl ?_
            refine WL_off rfl rfl rfl ?_
            refine WL_is (X_pick_f rfl rfl rfl) rfl rfl rfl ?_
            refine WL_is (X_pick_f rfl rfl rfl) rfl rfl rfl ?_
            refine WL_is (X_move rfl rfl) rfl rfl rfl ?_
            refine WL_is (X_fieldAddr rfl rfl rfl (by simp only [Nat.zero_add] <;> rfl)) rfl rfl rfl ?_
            refine WL_is (X_load1 rfl rfl (by exact idx3) rfl rfl) rfl rfl rfl ?_
            refine WL_is (X_eql_f rfl rfl rfl (by omega)) rfl rfl rfl ?_
            refine WL_is (X_move rfl rfl) rfl rfl rfl ?_
            refine WL_off rfl rfl rfl ?_
            refine WL_off rfl rfl rfl ?_
            refine WL_off rfl rfl rfl ?_
            refine WL_off rfl rfl rfl ?_
            refine WL_off rfl rfl rfl ?_
            refine WL_is (X_pick_f rfl rfl rfl) rfl rfl rfl ?_
            refine WL_is (X_pick_f rfl rfl rfl) rfl rfl rfl ?_
            (repeat (first | refine WL_nil ?_ | refine Then_normal ?_ | refine W_seq ?_ | refine W_skip ?_ | refine W_false rfl ?_))
            skip
            refine W_region rfl ?_
            refine WL_is (X_fieldAddr rfl rfl rfl (by simp only [Nat.zero_add] <;> rfl)) rfl rfl rfl ?_
            refine WL_is (X_load1 rfl rfl (by exact idx2) rfl rfl) rfl rfl rfl ?_
            refine WL_is (X_fieldAddr rfl rfl rfl (by simp only [Nat.zero_add] <;> rfl)) rfl rfl rfl ?_
            refine WL_store rfl rfl rfl (by exact idx1) rfl rfl rfl rfl rfl rfl rfl rfl rfl ?_
            (repeat (first | refine WL_nil ?_ | refine Then_normal ?_ | refine W_seq ?_))
            skip
            refine W_draw0 11 rfl rfl rfl rfl ?_
            refine RG_val rfl rfl (fun _ => rfl) (fun _ => X_loadA rfl rfl (by exact idx1) rfl rfl rfl) ?_
            refine RG_val rfl rfl (fun _ => rfl) (fun _ => X_loadA rfl rfl (by exact idx2) rfl rfl rfl) ?_
            refine RG_val rfl rfl (fun _ => rfl) (fun _ => X_callv rfl rfl rfl Try.func18 rfl (by assumption)) ?_
            refine RG_val rfl rfl (fun _ => rfl) (fun _ => X_move rfl rfl) ?_
            refine RG_val rfl rfl (fun _ => rfl) (fun _ => X_loadA rfl rfl (by exact idx3) rfl rfl rfl) ?_
            refine RG_val rfl rfl (fun _ => rfl) (fun _ => X_loadA rfl rfl (by exact idx3) rfl rfl rfl) ?_
            refine RG_val rfl rfl (fun _ => rfl) (fun _ => X_loadA rfl rfl (by exact idx2) rfl rfl rfl) ?_
            refine RG_callo (fun v h' => AttrV h' v (writtenO c a)) (fun _ _ _ hl h => h.mono hl) rfl (fun _ => rfl) (fun _ => rfl) Try.func30 rfl rfl rfl (fun _ => rfl) (fun vs h' hl _ => (written_fn h' c _ a _ (hc4.mono hl) (hv5.mono hl) hs hok).wkn (fun _ _ _ _ h => h.1)) ?_
            refine RG_callo (fun v h' => AttrV h' v (writtenO c (writtenO c a))) (fun _ _ _ hl h => h.mono hl) rfl (fun _ => rfl) (fun _ => rfl) Try.func30 rfl rfl rfl (fun _ => rfl) (fun vs h' hl hf => (written_fn h' c _ (writtenO c a) (vs 7) (hc4.mono hl) hf.1 wsm wok).wkn (fun _ _ _ _ h => h.1)) ?_
            refine RG_val rfl rfl (fun _ => rfl) (fun _ => X_loadA rfl rfl (by exact idx3) rfl rfl rfl) ?_
            refine RG_val rfl rfl (fun _ => rfl) (fun _ => X_loadA rfl rfl (by exact idx2) rfl rfl rfl) ?_
            refine RG_nil ?_
            refine RG_end rfl (fun vs => by simp only [endE, List.cons_append, List.nil_append] <;> rfl) (fun vs => by simp only [endR, List.nil_append, List.append_nil] <;> rfl) (fun vs h' hf => hf) ?_
            rintro vs h' hl hf
            have hf1 : AttrV h' (vs 8) (writtenO c (writtenO c a)) := hf.1
            clear hf
            rw [wtw] at hf1
            generalize vs 8 = w8 at *
            generalize vs 7 = w7 at *
            refine WL_call rfl rfl rfl Try.func30 rfl rfl rfl rfl (written_fn h' c _ a _ (hc4.mono hl) (hv5.mono hl) hs hok) ?_
            rintro w11 _ h2 l2 ⟨hw11, rfl⟩
            simp only [List.nil_append]
            have e5 := attrSame_ref h2 _ _ w8 w11 (hf1.mono l2) hw11 wsm wsm
            rw [decide_eq_true rfl] at e5
            have al := alive_fn h2
            refine WL_is (X_callv rfl rfl rfl Try.func18 rfl (by assumption)) rfl rfl rfl ?_
            refine WL_is (X_pick_t rfl rfl rfl) rfl rfl rfl ?_
            refine WL_is (X_move rfl rfl) rfl rfl rfl ?_
            refine WL_is (X_callv rfl rfl rfl Try.func10 rfl (by assumption)) rfl rfl rfl ?_
            refine WL_is (X_pick_t rfl rfl rfl) rfl rfl rfl ?_
            refine WL_is (X_assign rfl rfl) rfl rfl rfl ?_
            (repeat (first | refine WL_nil ?_ | refine Then_normal ?_ | refine W_ret ?_))
            refine Body_end rfl rfl rfl (SubR.none _) ?_
            rfl
      · rw [if_neg hl4] at k3
        refine WL_is (X_callv rfl rfl rfl Try.func20 rfl (by assumption)) rfl rfl rfl ?_
        refine WL_is (X_neq_f rfl rfl rfl (by omega)) rfl rfl rfl ?_
        refine WL_is (X_pick_f rfl rfl rfl) rfl rfl rfl ?_
        refine WL_is (X_move rfl rfl) rfl rfl rfl ?_
        refine WL_is (X_loadA rfl rfl (by exact idx1) rfl rfl rfl) rfl rfl rfl ?_
        refine WL_is (X_callv rfl rfl rfl Try.func26 rfl (by assumption)) rfl rfl rfl ?_
        refine WL_is (X_neq_t rfl rfl rfl (by omega)) rfl rfl rfl ?_
        refine WL_is (X_pick_f rfl rfl rfl) rfl rfl rfl ?_
        (repeat (first | refine WL_nil ?_ | refine Then_normal ?_ | refine W_seq ?_ | refine W_true rfl ?_))
        skip
        refine W_region rfl ?_
        refine WL_is (X_callv rfl rfl rfl Try.func10 rfl (by assumption)) rfl rfl rfl ?_
        refine WL_is (X_assign rfl rfl) rfl rfl rfl ?_
        (repeat (first | refine WL_nil ?_ | refine Then_normal ?_ | refine W_ret ?_ | refine Then_ret ?_))
        refine Body_end rfl rfl rfl (SubR.none _) ?_
        rfl
end Go.Proofs.Ytligadbnoiibnaa
