/- Who may turn attributes: the law on sticky directories. -/
import Derived.Test.YtligadbnoiibnaaOwnerN
namespace Go.Proofs.Ytligadbnoiibnaa
set_option maxRecDepth 4000
open Go Go.Par PH
theorem Attr.wb_may {a : Attr} {b : Int} (h : a.may = true) (hb : b ≤ 7) : (a.wb b).may = true := by
  rw [Attr.may_eq] at h ⊢
  simp only [Bool.and_eq_true, decide_eq_true_eq] at h ⊢
  exact ⟨⟨⟨⟨hb, h.1.1.1.2⟩, h.1.1.2⟩, h.1.2⟩, h.2⟩
theorem Attr.bits7 {a : Attr} (h : a.may = true) : a.bits ≤ 7 := by
  rw [Attr.may_eq] at h
  simp only [Bool.and_eq_true, decide_eq_true_eq] at h
  exact h.1.1.1.1
theorem Attr.wb_ok {a : Attr} {b : Int} (h : a.Ok) (hb : u8 b) : (a.wb b).Ok := ⟨hb, h.uid, h.gid, h.acc, h.df⟩
theorem fin8 {x : Int} (h : 0 ≤ x ∧ x ≤ 7) : ∃ n : Fin 8, x = ((n.val : Nat) : Int) := ⟨⟨x.toNat, by omega⟩, by dsimp only; omega⟩
theorem free_bits {x : Int} (h : 0 ≤ x ∧ x ≤ 7) : (0 ≤ bits .andNot .u8 x 1 ∧ bits .andNot .u8 x 1 ≤ 7) ∧ bits .and .u8 (bits .andNot .u8 x 1) 1 = 0 := by
  obtain ⟨n, rfl⟩ := fin8 h
  revert n
  decide +kernel
theorem held_bits {x : Int} (h : 0 ≤ x ∧ x ≤ 7) : (0 ≤ bits .or .u8 x 1 ∧ bits .or .u8 x 1 ≤ 7) ∧ bits .and .u8 (bits .or .u8 x 1) 1 ≠ 0 := by
  obtain ⟨n, rfl⟩ := fin8 h
  revert n
  decide +kernel
theorem free_rem {c : Cred} {d a : Attr} (ha : mayO c a = true) (hd : d.may = true) (hok : d.Ok) : removesO c (d.wb (bits .andNot .u8 d.bits 1)) a = true := by
  obtain ⟨h1, h2⟩ := free_bits ⟨hok.bits.1, Attr.bits7 hd⟩
  have hl : decide (c.gs.length ≤ 4) = true := by
    unfold mayO at ha
    simp only [Bool.and_eq_true] at ha
    exact ha.1
  have hm : mayO c (d.wb (bits .andNot .u8 d.bits 1)) = true := by
    unfold mayO
    rw [hl, Attr.wb_may hd h1.2]; rfl
  unfold removesO
  rw [ha, hm]
  have : bits .and .u8 (d.wb (bits .andNot .u8 d.bits 1)).bits 1 = 0 := h2
  rw [decide_eq_true this]; simp
theorem held_rem {c : Cred} {d a : Attr} (ha : mayO c a = true) (hd : d.may = true) (hok : d.Ok) : removesO c (d.wb (bits .or .u8 d.bits 1)) a = (decide (c.uid = 0) || decide (c.uid = a.uid) || decide (c.uid = d.uid)) := by
  obtain ⟨h1, h2⟩ := held_bits ⟨hok.bits.1, Attr.bits7 hd⟩
  have hl : decide (c.gs.length ≤ 4) = true := by
    unfold mayO at ha
    simp only [Bool.and_eq_true] at ha
    exact ha.1
  have hm : mayO c (d.wb (bits .or .u8 d.bits 1)) = true := by
    unfold mayO
    rw [hl, Attr.wb_may hd h1.2]; rfl
  unfold removesO ownsO
  rw [ha, hm]
  have : ¬ bits .and .u8 (d.wb (bits .or .u8 d.bits 1)).bits 1 = 0 := h2
  rw [decide_eq_false this]
  have e : (d.wb (bits .or .u8 d.bits 1)).uid = d.uid := rfl
  rw [e]
  generalize decide (c.uid = 0) = p1
  generalize decide (c.uid = a.uid) = p2
  generalize decide (c.uid = d.uid) = p3
  cases p1 <;> cases p2 <;> cases p3 <;> rfl
attribute [local irreducible] W WL Does Exec Body Then inBlk RG WR row obj pblk
attribute [local irreducible] bits
set_option maxHeartbeats 4000000 in
theorem sticky_law (h : PH) (c : Cred) (cv : Value) (d a : Attr) (dv v : Value) (hc : CredV h cv c) (hd : AttrV h dv d) (dok : d.Ok) (hv : AttrV h v a) (hok : a.Ok) :
    Does Try.prog 5 [cv, dv, v] [] h (Ret fun r _ _ => r = .bool true) := by
  have c1 := large13_fn h c cv a v hc hv
  have c2 := fun h' (hl : le h h') => large13_fn h' c cv d dv (hc.mono hl) (hd.mono hl)
  have hc' := hc
  have hv' := hv
  have hd' := hd
  obtain ⟨x, rfl, hx⟩ := hc
  obtain ⟨xa, xc, rfl⟩ := hx.shape
  obtain ⟨_, _, _, _, _, _, _, _, _, _, rfl⟩ := hv.shape
  obtain ⟨s1, s2, s3, s4, s5, t1, t2, t3, t4, t5, rfl⟩ := hd.shape
  refine Does_of_W Try.func5 rfl (n := 76) rfl rfl (by simp only [argE, Nat.reduceAdd] <;> rfl) ?_
  (repeat (first | refine W_seq ?_))
  skip
  refine W_region rfl ?_
  (refine WL_box rfl rfl rfl rfl rfl rfl ?_; intro b_)
  (refine WL_box rfl rfl rfl rfl rfl rfl ?_; intro b_)
  (refine WL_box rfl rfl rfl rfl rfl rfl ?_; intro b_)
  refine WL_is (X_assign rfl rfl) rfl rfl rfl ?_
  (repeat (first | refine WL_nil ?_ | refine Then_normal ?_ | refine W_seq ?_))
  skip
  refine W_region rfl ?_
  refine WL_is (X_loadA rfl rfl (by exact idx2) rfl rfl rfl) rfl rfl rfl ?_
  refine WL_is (X_loadA rfl rfl (by exact idx0) rfl rfl rfl) rfl rfl rfl ?_
  refine WL_call rfl rfl rfl Try.func8 rfl rfl rfl rfl c1 ?_
  rintro _ _ H1 L1 ⟨⟨b, rfl, hb⟩, rfl⟩
  simp only [List.nil_append]
  cases b with
  | true =>
    have al := alive_fn H1
    refine WL_is (X_move rfl rfl) rfl rfl rfl ?_
    refine WL_off rfl rfl rfl ?_
    refine WL_off rfl rfl rfl ?_
    refine WL_off rfl rfl rfl ?_
    refine WL_is (X_pick_t rfl rfl rfl) rfl rfl rfl ?_
    refine WL_is (X_move rfl rfl) rfl rfl rfl ?_
    refine WL_off rfl rfl rfl ?_
    refine WL_off rfl rfl rfl ?_
    refine WL_off rfl rfl rfl ?_
    refine WL_off rfl rfl rfl ?_
    refine WL_is (X_pick_t rfl rfl rfl) rfl rfl rfl ?_
    refine WL_is (X_move rfl rfl) rfl rfl rfl ?_
    refine WL_off rfl rfl rfl ?_
    refine WL_off rfl rfl rfl ?_
    refine WL_off rfl rfl rfl ?_
    refine WL_off rfl rfl rfl ?_
    refine WL_is (X_pick_t rfl rfl rfl) rfl rfl rfl ?_
    refine WL_is (X_move rfl rfl) rfl rfl rfl ?_
    refine WL_off rfl rfl rfl ?_
    refine WL_off rfl rfl rfl ?_
    refine WL_off rfl rfl rfl ?_
    refine WL_is (X_pick_t rfl rfl rfl) rfl rfl rfl ?_
    (repeat (first | refine WL_nil ?_ | refine Then_normal ?_ | refine W_seq ?_ | refine W_true rfl ?_))
    skip
    refine W_region rfl ?_
    refine WL_is (X_callv rfl rfl rfl Try.func10 rfl (by assumption)) rfl rfl rfl ?_
    refine WL_is (X_assign rfl rfl) rfl rfl rfl ?_
    (repeat (first | refine WL_nil ?_ | refine Then_normal ?_ | refine W_ret ?_ | refine Then_ret ?_))
    refine Body_end rfl rfl rfl (SubR.none _) ?_
    rfl
  | false =>
    obtain ⟨ht, h60⟩ := hb rfl
    have hs := ht.small
    refine WL_is (X_move rfl rfl) rfl rfl rfl ?_
    refine WL_is (X_loadA rfl rfl (by exact idx2) rfl rfl rfl) rfl rfl rfl ?_
    refine WL_is (X_loadA rfl rfl (by exact idx1) rfl rfl rfl) rfl rfl rfl ?_
    refine WL_call rfl rfl rfl Try.func8 rfl rfl rfl rfl (c2 H1 L1) ?_
    rintro _ _ H2 L2 ⟨⟨b, rfl, hb⟩, rfl⟩
    simp only [List.nil_append]
    cases b with
    | true =>
      have al := alive_fn H2
      refine WL_is (X_pick_f rfl rfl rfl) rfl rfl rfl ?_
      refine WL_is (X_move rfl rfl) rfl rfl rfl ?_
      refine WL_off rfl rfl rfl ?_
      refine WL_off rfl rfl rfl ?_
      refine WL_off rfl rfl rfl ?_
      refine WL_off rfl rfl rfl ?_
      refine WL_is (X_pick_t rfl rfl rfl) rfl rfl rfl ?_
      refine WL_is (X_move rfl rfl) rfl rfl rfl ?_
      refine WL_off rfl rfl rfl ?_
      refine WL_off rfl rfl rfl ?_
      refine WL_off rfl rfl rfl ?_
      refine WL_off rfl rfl rfl ?_
      refine WL_is (X_pick_t rfl rfl rfl) rfl rfl rfl ?_
      refine WL_is (X_move rfl rfl) rfl rfl rfl ?_
      refine WL_off rfl rfl rfl ?_
      refine WL_off rfl rfl rfl ?_
      refine WL_off rfl rfl rfl ?_
      refine WL_is (X_pick_t rfl rfl rfl) rfl rfl rfl ?_
      (repeat (first | refine WL_nil ?_ | refine Then_normal ?_ | refine W_seq ?_ | refine W_true rfl ?_))
      skip
      refine W_region rfl ?_
      refine WL_is (X_callv rfl rfl rfl Try.func10 rfl (by assumption)) rfl rfl rfl ?_
      refine WL_is (X_assign rfl rfl) rfl rfl rfl ?_
      (repeat (first | refine WL_nil ?_ | refine Then_normal ?_ | refine W_ret ?_ | refine Then_ret ?_))
      refine Body_end rfl rfl rfl (SubR.none _) ?_
      rfl
    | false =>
      obtain ⟨dt, _⟩ := hb rfl
      have ds := dt.small
      have L12 := L1.trans L2
      refine WL_is (X_pick_f rfl rfl rfl) rfl rfl rfl ?_
      refine WL_is (X_move rfl rfl) rfl rfl rfl ?_
      refine WL_is (X_loadA rfl rfl (by exact idx0) rfl rfl rfl) rfl rfl rfl ?_
      refine WL_call rfl rfl rfl Try.func11 rfl rfl rfl rfl (attrCopyK_ref H2 a _ (hv'.mono L12) hs) ?_
      rintro _ _ H3 L3 ⟨hA, rfl⟩
      simp only [List.nil_append]
      have L13 := L12.trans L3
      have k1 := attrCheck_fn H3 a _ hA hs hok
      cases ham : a.may with
      | false =>
        have al := alive_fn H3
        rw [ham, if_neg (by decide)] at k1
        refine WL_is (X_callv rfl rfl rfl Try.func20 rfl (by assumption)) rfl rfl rfl ?_
        refine WL_is (X_neq_t rfl rfl rfl (by omega)) rfl rfl rfl ?_
        refine WL_is (X_pick_f rfl rfl rfl) rfl rfl rfl ?_
        refine WL_is (X_move rfl rfl) rfl rfl rfl ?_
        refine WL_off rfl rfl rfl ?_
        refine WL_off rfl rfl rfl ?_
        refine WL_off rfl rfl rfl ?_
        refine WL_off rfl rfl rfl ?_
        refine WL_is (X_pick_t rfl rfl rfl) rfl rfl rfl ?_
        refine WL_is (X_move rfl rfl) rfl rfl rfl ?_
        refine WL_off rfl rfl rfl ?_
        refine WL_off rfl rfl rfl ?_
        refine WL_off rfl rfl rfl ?_
        refine WL_is (X_pick_t rfl rfl rfl) rfl rfl rfl ?_
        (repeat (first | refine WL_nil ?_ | refine Then_normal ?_ | refine W_seq ?_ | refine W_true rfl ?_))
        skip
        refine W_region rfl ?_
        refine WL_is (X_callv rfl rfl rfl Try.func10 rfl (by assumption)) rfl rfl rfl ?_
        refine WL_is (X_assign rfl rfl) rfl rfl rfl ?_
        (repeat (first | refine WL_nil ?_ | refine Then_normal ?_ | refine W_ret ?_ | refine Then_ret ?_))
        refine Body_end rfl rfl rfl (SubR.none _) ?_
        rfl
      | true =>
        rw [ham, if_pos rfl] at k1
        refine WL_is (X_callv rfl rfl rfl Try.func20 rfl (by assumption)) rfl rfl rfl ?_
        refine WL_is (X_neq_f rfl rfl rfl (by omega)) rfl rfl rfl ?_
        refine WL_is (X_pick_f rfl rfl rfl) rfl rfl rfl ?_
        refine WL_is (X_move rfl rfl) rfl rfl rfl ?_
        refine WL_is (X_loadA rfl rfl (by exact idx1) rfl rfl rfl) rfl rfl rfl ?_
        refine WL_call rfl rfl rfl Try.func11 rfl rfl rfl rfl (attrCopyK_ref H3 d _ (hd'.mono L13) ds) ?_
        rintro _ _ H4 L4 ⟨hD, rfl⟩
        simp only [List.nil_append]
        have L14 := L13.trans L4
        have al := alive_fn H4
        have k2 := attrCheck_fn H4 d _ hD ds dok
        have hc4 := hc'.mono L14
        have k3 := credCheck_fn H4 c _ hc4
        unfold credV at k3
        cases hdm : d.may with
        | false =>
          rw [hdm, if_neg (by decide)] at k2
          refine WL_is (X_callv rfl rfl rfl Try.func20 rfl (by assumption)) rfl rfl rfl ?_
          refine WL_is (X_neq_t rfl rfl rfl (by omega)) rfl rfl rfl ?_
          refine WL_is (X_pick_f rfl rfl rfl) rfl rfl rfl ?_
          refine WL_is (X_move rfl rfl) rfl rfl rfl ?_
          refine WL_off rfl rfl rfl ?_
          refine WL_off rfl rfl rfl ?_
          refine WL_off rfl rfl rfl ?_
          refine WL_is (X_pick_t rfl rfl rfl) rfl rfl rfl ?_
          (repeat (first | refine WL_nil ?_ | refine Then_normal ?_ | refine W_seq ?_ | refine W_true rfl ?_))
          skip
          refine W_region rfl ?_
          refine WL_is (X_callv rfl rfl rfl Try.func10 rfl (by assumption)) rfl rfl rfl ?_
          refine WL_is (X_assign rfl rfl) rfl rfl rfl ?_
          (repeat (first | refine WL_nil ?_ | refine Then_normal ?_ | refine W_ret ?_ | refine Then_ret ?_))
          refine Body_end rfl rfl rfl (SubR.none _) ?_
          rfl
        | true =>
          rw [hdm, if_pos rfl] at k2
          by_cases hl4 : c.gs.length ≤ 4
          · rw [if_pos hl4] at k3
            have hma : mayO c a = true := by unfold mayO; rw [decide_eq_true hl4, ham]; rfl
            have hd4 := hd'.mono L14
            obtain ⟨w1, w2⟩ := free_bits ⟨dok.bits.1, Attr.bits7 hdm⟩
            obtain ⟨z1, z2⟩ := held_bits ⟨dok.bits.1, Attr.bits7 hdm⟩
            have r1 := removes_fn H4 c _ (d.wb (bits .andNot .u8 d.bits 1)) a _ _ hc4 hd4.wb (hv'.mono L14) hs hok (Attr.wb_small ds) (Attr.wb_ok dok ⟨w1.1, by omega⟩)
            have r2 := removes_fn H4 c _ (d.wb (bits .or .u8 d.bits 1)) a _ _ hc4 hd4.wb (hv'.mono L14) hs hok (Attr.wb_small ds) (Attr.wb_ok dok ⟨z1.1, by omega⟩)
            rw [free_rem hma hdm dok] at r1
            rw [held_rem hma hdm dok] at r2
            unfold credV attrS attrV at r1 r2
            unfold attrS attrV
            by_cases j1 : c.uid = 0
            · rw [decide_eq_true j1] at r2
              refine WL_is (X_callv rfl rfl rfl Try.func20 rfl (by assumption)) rfl rfl rfl ?_
              refine WL_is (X_neq_f rfl rfl rfl (by omega)) rfl rfl rfl ?_
              refine WL_is (X_pick_f rfl rfl rfl) rfl rfl rfl ?_
              refine WL_is (X_move rfl rfl) rfl rfl rfl ?_
              refine WL_is (X_loadA rfl rfl (by exact idx2) rfl rfl rfl) rfl rfl rfl ?_
              refine WL_is (X_callv rfl rfl rfl Try.func26 rfl (by assumption)) rfl rfl rfl ?_
              refine WL_is (X_neq_f rfl rfl rfl (by omega)) rfl rfl rfl ?_
              refine WL_is (X_pick_f rfl rfl rfl) rfl rfl rfl ?_
              (repeat (first | refine WL_nil ?_ | refine Then_normal ?_ | refine W_seq ?_ | refine W_skip ?_ | refine W_false rfl ?_))
              skip
              refine W_region rfl ?_
              refine WL_is (X_loadA rfl rfl (by exact idx1) rfl rfl rfl) rfl rfl rfl ?_
              (refine WL_alloc rfl rfl rfl rfl rfl rfl ?_; intro b_)
              refine WL_store rfl rfl rfl (by exact idx0) rfl rfl rfl rfl rfl rfl rfl rfl rfl ?_
              (repeat (first | refine WL_nil ?_ | refine Then_normal ?_ | refine W_seq ?_))
              skip
              refine W_region rfl ?_
              refine WL_is (X_fieldAddr rfl rfl rfl (by simp only [Nat.zero_add] <;> rfl)) rfl rfl rfl ?_
              refine WL_is (X_load1 rfl rfl (by exact idx2) rfl rfl) rfl rfl rfl ?_
              refine WL_is (X_andNot rfl rfl rfl) rfl rfl rfl ?_
              refine WL_is (X_fieldAddr rfl rfl rfl (by simp only [Nat.zero_add] <;> rfl)) rfl rfl rfl ?_
              refine WL_store rfl rfl rfl (by exact idx0) rfl rfl rfl rfl rfl rfl rfl rfl rfl ?_
              (repeat (first | refine WL_nil ?_ | refine Then_normal ?_ | refine W_seq ?_))
              skip
              refine W_region rfl ?_
              refine WL_is (X_loadA rfl rfl (by exact idx2) rfl rfl rfl) rfl rfl rfl ?_
              (refine WL_alloc rfl rfl rfl rfl rfl rfl ?_; intro b_)
              refine WL_store rfl rfl rfl (by exact idx0) rfl rfl rfl rfl rfl rfl rfl rfl rfl ?_
              (repeat (first | refine WL_nil ?_ | refine Then_normal ?_ | refine W_seq ?_))
              skip
              refine W_region rfl ?_
              refine WL_is (X_fieldAddr rfl rfl rfl (by simp only [Nat.zero_add] <;> rfl)) rfl rfl rfl ?_
              refine WL_is (X_load1 rfl rfl (by exact idx3) rfl rfl) rfl rfl rfl ?_
              refine WL_is (X_or rfl rfl rfl) rfl rfl rfl ?_
              refine WL_is (X_fieldAddr rfl rfl rfl (by simp only [Nat.zero_add] <;> rfl)) rfl rfl rfl ?_
              refine WL_store rfl rfl rfl (by exact idx0) rfl rfl rfl rfl rfl rfl rfl rfl rfl ?_
              (repeat (first | refine WL_nil ?_ | refine Then_normal ?_ | refine W_seq ?_))
              skip
              refine W_draw0 24 rfl rfl rfl rfl ?_
              refine RG_val rfl rfl (fun _ => rfl) (fun _ => X_loadA rfl rfl (by exact idx4) rfl rfl rfl) ?_
              refine RG_val rfl rfl (fun _ => rfl) (fun _ => X_loadA rfl rfl (by exact idx1) rfl rfl rfl) ?_
              refine RG_val rfl rfl (fun _ => rfl) (fun _ => X_loadA rfl rfl (by exact idx2) rfl rfl rfl) ?_
              refine RG_val rfl rfl (fun _ => rfl) (fun _ => X_callv rfl rfl rfl Try.func16 rfl (by assumption)) ?_
              refine RG_val rfl rfl (fun _ => rfl) (fun _ => X_move rfl rfl) ?_
              refine RG_val rfl rfl (fun _ => rfl) (fun _ => X_loadA rfl rfl (by exact idx4) rfl rfl rfl) ?_
              refine RG_val rfl rfl (fun _ => rfl) (fun _ => X_loadA rfl rfl (by exact idx0) rfl rfl rfl) ?_
              refine RG_val rfl rfl (fun _ => rfl) (fun _ => X_loadA rfl rfl (by exact idx2) rfl rfl rfl) ?_
              refine RG_val rfl rfl (fun _ => rfl) (fun _ => X_callv rfl rfl rfl Try.func16 rfl (by assumption)) ?_
              refine RG_val rfl rfl (fun _ => rfl) (fun _ => X_fieldAddr rfl rfl rfl (by simp only [Nat.zero_add] <;> rfl)) ?_
              refine RG_val rfl rfl (fun _ => rfl) (fun _ => X_load1 rfl rfl (by exact idx4) rfl rfl) ?_
              refine RG_val rfl rfl (fun _ => rfl) (fun _ => X_eql_t rfl rfl rfl (by omega)) ?_
              refine RG_val rfl rfl (fun _ => rfl) (fun _ => X_move rfl rfl) ?_
              refine RG_off rfl rfl (fun _ => rfl) ?_
              refine RG_off rfl rfl (fun _ => rfl) ?_
              refine RG_off rfl rfl (fun _ => rfl) ?_
              refine RG_off rfl rfl (fun _ => rfl) ?_
              refine RG_off rfl rfl (fun _ => rfl) ?_
              refine RG_val rfl rfl (fun _ => rfl) (fun _ => X_pick_t rfl rfl rfl) ?_
              refine RG_val rfl rfl (fun _ => rfl) (fun _ => X_move rfl rfl) ?_
              refine RG_off rfl rfl (fun _ => rfl) ?_
              refine RG_off rfl rfl (fun _ => rfl) ?_
              refine RG_off rfl rfl (fun _ => rfl) ?_
              refine RG_off rfl rfl (fun _ => rfl) ?_
              refine RG_nil ?_
              refine RG_endv rfl (fun vs => by simp only [endE, List.cons_append, List.nil_append] <;> rfl) (fun vs => rfl) ?_
              refine WL_off rfl rfl rfl ?_
              refine WL_is (X_pick_t rfl rfl rfl) rfl rfl rfl ?_
              refine WL_is (X_eqB_t rfl rfl rfl rfl (by rfl)) rfl rfl rfl ?_
              refine WL_is (X_pick_t rfl rfl rfl) rfl rfl rfl ?_
              refine WL_is (X_move rfl rfl) rfl rfl rfl ?_
              refine WL_is (X_callv rfl rfl rfl Try.func10 rfl (by assumption)) rfl rfl rfl ?_
              refine WL_is (X_pick_t rfl rfl rfl) rfl rfl rfl ?_
              refine WL_is (X_assign rfl rfl) rfl rfl rfl ?_
              (repeat (first | refine WL_nil ?_ | refine Then_normal ?_ | refine W_ret ?_))
              refine Body_end rfl rfl rfl (SubR.none _) ?_
              rfl
            · rw [decide_eq_false j1] at r2
              by_cases j2 : c.uid = a.uid
              · rw [decide_eq_true j2] at r2
                refine WL_is (X_callv rfl rfl rfl Try.func20 rfl (by assumption)) rfl rfl rfl ?_
                refine WL_is (X_neq_f rfl rfl rfl (by omega)) rfl rfl rfl ?_
                refine WL_is (X_pick_f rfl rfl rfl) rfl rfl rfl ?_
                refine WL_is (X_move rfl rfl) rfl rfl rfl ?_
                refine WL_is (X_loadA rfl rfl (by exact idx2) rfl rfl rfl) rfl rfl rfl ?_
                refine WL_is (X_callv rfl rfl rfl Try.func26 rfl (by assumption)) rfl rfl rfl ?_
                refine WL_is (X_neq_f rfl rfl rfl (by omega)) rfl rfl rfl ?_
                refine WL_is (X_pick_f rfl rfl rfl) rfl rfl rfl ?_
                (repeat (first | refine WL_nil ?_ | refine Then_normal ?_ | refine W_seq ?_ | refine W_skip ?_ | refine W_false rfl ?_))
                skip
                refine W_region rfl ?_
                refine WL_is (X_loadA rfl rfl (by exact idx1) rfl rfl rfl) rfl rfl rfl ?_
                (refine WL_alloc rfl rfl rfl rfl rfl rfl ?_; intro b_)
                refine WL_store rfl rfl rfl (by exact idx0) rfl rfl rfl rfl rfl rfl rfl rfl rfl ?_
                (repeat (first | refine WL_nil ?_ | refine Then_normal ?_ | refine W_seq ?_))
                skip
                refine W_region rfl ?_
                refine WL_is (X_fieldAddr rfl rfl rfl (by simp only [Nat.zero_add] <;> rfl)) rfl rfl rfl ?_
                refine WL_is (X_load1 rfl rfl (by exact idx2) rfl rfl) rfl rfl rfl ?_
                refine WL_is (X_andNot rfl rfl rfl) rfl rfl rfl ?_
                refine WL_is (X_fieldAddr rfl rfl rfl (by simp only [Nat.zero_add] <;> rfl)) rfl rfl rfl ?_
                refine WL_store rfl rfl rfl (by exact idx0) rfl rfl rfl rfl rfl rfl rfl rfl rfl ?_
                (repeat (first | refine WL_nil ?_ | refine Then_normal ?_ | refine W_seq ?_))
                skip
                refine W_region rfl ?_
                refine WL_is (X_loadA rfl rfl (by exact idx2) rfl rfl rfl) rfl rfl rfl ?_
                (refine WL_alloc rfl rfl rfl rfl rfl rfl ?_; intro b_)
                refine WL_store rfl rfl rfl (by exact idx0) rfl rfl rfl rfl rfl rfl rfl rfl rfl ?_
                (repeat (first | refine WL_nil ?_ | refine Then_normal ?_ | refine W_seq ?_))
                skip
                refine W_region rfl ?_
                refine WL_is (X_fieldAddr rfl rfl rfl (by simp only [Nat.zero_add] <;> rfl)) rfl rfl rfl ?_
                refine WL_is (X_load1 rfl rfl (by exact idx3) rfl rfl) rfl rfl rfl ?_
                refine WL_is (X_or rfl rfl rfl) rfl rfl rfl ?_
                refine WL_is (X_fieldAddr rfl rfl rfl (by simp only [Nat.zero_add] <;> rfl)) rfl rfl rfl ?_
                refine WL_store rfl rfl rfl (by exact idx0) rfl rfl rfl rfl rfl rfl rfl rfl rfl ?_
                (repeat (first | refine WL_nil ?_ | refine Then_normal ?_ | refine W_seq ?_))
                skip
                refine W_draw0 24 rfl rfl rfl rfl ?_
                refine RG_val rfl rfl (fun _ => rfl) (fun _ => X_loadA rfl rfl (by exact idx4) rfl rfl rfl) ?_
                refine RG_val rfl rfl (fun _ => rfl) (fun _ => X_loadA rfl rfl (by exact idx1) rfl rfl rfl) ?_
                refine RG_val rfl rfl (fun _ => rfl) (fun _ => X_loadA rfl rfl (by exact idx2) rfl rfl rfl) ?_
                refine RG_val rfl rfl (fun _ => rfl) (fun _ => X_callv rfl rfl rfl Try.func16 rfl (by assumption)) ?_
                refine RG_val rfl rfl (fun _ => rfl) (fun _ => X_move rfl rfl) ?_
                refine RG_val rfl rfl (fun _ => rfl) (fun _ => X_loadA rfl rfl (by exact idx4) rfl rfl rfl) ?_
                refine RG_val rfl rfl (fun _ => rfl) (fun _ => X_loadA rfl rfl (by exact idx0) rfl rfl rfl) ?_
                refine RG_val rfl rfl (fun _ => rfl) (fun _ => X_loadA rfl rfl (by exact idx2) rfl rfl rfl) ?_
                refine RG_val rfl rfl (fun _ => rfl) (fun _ => X_callv rfl rfl rfl Try.func16 rfl (by assumption)) ?_
                refine RG_val rfl rfl (fun _ => rfl) (fun _ => X_fieldAddr rfl rfl rfl (by simp only [Nat.zero_add] <;> rfl)) ?_
                refine RG_val rfl rfl (fun _ => rfl) (fun _ => X_load1 rfl rfl (by exact idx4) rfl rfl) ?_
                refine RG_val rfl rfl (fun _ => rfl) (fun _ => X_eql_f rfl rfl rfl (by omega)) ?_
                refine RG_val rfl rfl (fun _ => rfl) (fun _ => X_move rfl rfl) ?_
                refine RG_val rfl rfl (fun _ => rfl) (fun _ => X_fieldAddr rfl rfl rfl (by simp only [Nat.zero_add] <;> rfl)) ?_
                refine RG_val rfl rfl (fun _ => rfl) (fun _ => X_load1 rfl rfl (by exact idx4) rfl rfl) ?_
                refine RG_val rfl rfl (fun _ => rfl) (fun _ => X_fieldAddr rfl rfl rfl (by simp only [Nat.zero_add] <;> rfl)) ?_
                refine RG_val rfl rfl (fun _ => rfl) (fun _ => X_load1 rfl rfl (by exact idx2) rfl rfl) ?_
                refine RG_val rfl rfl (fun _ => rfl) (fun _ => X_eql_t rfl rfl rfl (by omega)) ?_
                refine RG_val rfl rfl (fun _ => rfl) (fun _ => X_pick_f rfl rfl rfl) ?_
                refine RG_val rfl rfl (fun _ => rfl) (fun _ => X_move rfl rfl) ?_
                refine RG_off rfl rfl (fun _ => rfl) ?_
                refine RG_off rfl rfl (fun _ => rfl) ?_
                refine RG_off rfl rfl (fun _ => rfl) ?_
                refine RG_off rfl rfl (fun _ => rfl) ?_
                refine RG_nil ?_
                refine RG_endv rfl (fun vs => by simp only [endE, List.cons_append, List.nil_append] <;> rfl) (fun vs => rfl) ?_
                refine WL_off rfl rfl rfl ?_
                refine WL_is (X_pick_t rfl rfl rfl) rfl rfl rfl ?_
                refine WL_is (X_eqB_t rfl rfl rfl rfl (by rfl)) rfl rfl rfl ?_
                refine WL_is (X_pick_t rfl rfl rfl) rfl rfl rfl ?_
                refine WL_is (X_move rfl rfl) rfl rfl rfl ?_
                refine WL_is (X_callv rfl rfl rfl Try.func10 rfl (by assumption)) rfl rfl rfl ?_
                refine WL_is (X_pick_t rfl rfl rfl) rfl rfl rfl ?_
                refine WL_is (X_assign rfl rfl) rfl rfl rfl ?_
                (repeat (first | refine WL_nil ?_ | refine Then_normal ?_ | refine W_ret ?_))
                refine Body_end rfl rfl rfl (SubR.none _) ?_
                rfl
              · rw [decide_eq_false j2] at r2
                by_cases j3 : c.uid = d.uid
                · rw [decide_eq_true j3] at r2
                  refine WL_is (X_callv rfl rfl rfl Try.func20 rfl (by assumption)) rfl rfl rfl ?_
                  refine WL_is (X_neq_f rfl rfl rfl (by omega)) rfl rfl rfl ?_
                  refine WL_is (X_pick_f rfl rfl rfl) rfl rfl rfl ?_
                  refine WL_is (X_move rfl rfl) rfl rfl rfl ?_
                  refine WL_is (X_loadA rfl rfl (by exact idx2) rfl rfl rfl) rfl rfl rfl ?_
                  refine WL_is (X_callv rfl rfl rfl Try.func26 rfl (by assumption)) rfl rfl rfl ?_
                  refine WL_is (X_neq_f rfl rfl rfl (by omega)) rfl rfl rfl ?_
                  refine WL_is (X_pick_f rfl rfl rfl) rfl rfl rfl ?_
                  (repeat (first | refine WL_nil ?_ | refine Then_normal ?_ | refine W_seq ?_ | refine W_skip ?_ | refine W_false rfl ?_))
                  skip
                  refine W_region rfl ?_
                  refine WL_is (X_loadA rfl rfl (by exact idx1) rfl rfl rfl) rfl rfl rfl ?_
                  (refine WL_alloc rfl rfl rfl rfl rfl rfl ?_; intro b_)
                  refine WL_store rfl rfl rfl (by exact idx0) rfl rfl rfl rfl rfl rfl rfl rfl rfl ?_
                  (repeat (first | refine WL_nil ?_ | refine Then_normal ?_ | refine W_seq ?_))
                  skip
                  refine W_region rfl ?_
                  refine WL_is (X_fieldAddr rfl rfl rfl (by simp only [Nat.zero_add] <;> rfl)) rfl rfl rfl ?_
                  refine WL_is (X_load1 rfl rfl (by exact idx2) rfl rfl) rfl rfl rfl ?_
                  refine WL_is (X_andNot rfl rfl rfl) rfl rfl rfl ?_
                  refine WL_is (X_fieldAddr rfl rfl rfl (by simp only [Nat.zero_add] <;> rfl)) rfl rfl rfl ?_
                  refine WL_store rfl rfl rfl (by exact idx0) rfl rfl rfl rfl rfl rfl rfl rfl rfl ?_
                  (repeat (first | refine WL_nil ?_ | refine Then_normal ?_ | refine W_seq ?_))
                  skip
                  refine W_region rfl ?_
                  refine WL_is (X_loadA rfl rfl (by exact idx2) rfl rfl rfl) rfl rfl rfl ?_
                  (refine WL_alloc rfl rfl rfl rfl rfl rfl ?_; intro b_)
                  refine WL_store rfl rfl rfl (by exact idx0) rfl rfl rfl rfl rfl rfl rfl rfl rfl ?_
                  (repeat (first | refine WL_nil ?_ | refine Then_normal ?_ | refine W_seq ?_))
                  skip
                  refine W_region rfl ?_
                  refine WL_is (X_fieldAddr rfl rfl rfl (by simp only [Nat.zero_add] <;> rfl)) rfl rfl rfl ?_
                  refine WL_is (X_load1 rfl rfl (by exact idx3) rfl rfl) rfl rfl rfl ?_
                  refine WL_is (X_or rfl rfl rfl) rfl rfl rfl ?_
                  refine WL_is (X_fieldAddr rfl rfl rfl (by simp only [Nat.zero_add] <;> rfl)) rfl rfl rfl ?_
                  refine WL_store rfl rfl rfl (by exact idx0) rfl rfl rfl rfl rfl rfl rfl rfl rfl ?_
                  (repeat (first | refine WL_nil ?_ | refine Then_normal ?_ | refine W_seq ?_))
                  skip
                  refine W_draw0 24 rfl rfl rfl rfl ?_
                  refine RG_val rfl rfl (fun _ => rfl) (fun _ => X_loadA rfl rfl (by exact idx4) rfl rfl rfl) ?_
                  refine RG_val rfl rfl (fun _ => rfl) (fun _ => X_loadA rfl rfl (by exact idx1) rfl rfl rfl) ?_
                  refine RG_val rfl rfl (fun _ => rfl) (fun _ => X_loadA rfl rfl (by exact idx2) rfl rfl rfl) ?_
                  refine RG_val rfl rfl (fun _ => rfl) (fun _ => X_callv rfl rfl rfl Try.func16 rfl (by assumption)) ?_
                  refine RG_val rfl rfl (fun _ => rfl) (fun _ => X_move rfl rfl) ?_
                  refine RG_val rfl rfl (fun _ => rfl) (fun _ => X_loadA rfl rfl (by exact idx4) rfl rfl rfl) ?_
                  refine RG_val rfl rfl (fun _ => rfl) (fun _ => X_loadA rfl rfl (by exact idx0) rfl rfl rfl) ?_
                  refine RG_val rfl rfl (fun _ => rfl) (fun _ => X_loadA rfl rfl (by exact idx2) rfl rfl rfl) ?_
                  refine RG_val rfl rfl (fun _ => rfl) (fun _ => X_callv rfl rfl rfl Try.func16 rfl (by assumption)) ?_
                  refine RG_val rfl rfl (fun _ => rfl) (fun _ => X_fieldAddr rfl rfl rfl (by simp only [Nat.zero_add] <;> rfl)) ?_
                  refine RG_val rfl rfl (fun _ => rfl) (fun _ => X_load1 rfl rfl (by exact idx4) rfl rfl) ?_
                  refine RG_val rfl rfl (fun _ => rfl) (fun _ => X_eql_f rfl rfl rfl (by omega)) ?_
                  refine RG_val rfl rfl (fun _ => rfl) (fun _ => X_move rfl rfl) ?_
                  refine RG_val rfl rfl (fun _ => rfl) (fun _ => X_fieldAddr rfl rfl rfl (by simp only [Nat.zero_add] <;> rfl)) ?_
                  refine RG_val rfl rfl (fun _ => rfl) (fun _ => X_load1 rfl rfl (by exact idx4) rfl rfl) ?_
                  refine RG_val rfl rfl (fun _ => rfl) (fun _ => X_fieldAddr rfl rfl rfl (by simp only [Nat.zero_add] <;> rfl)) ?_
                  refine RG_val rfl rfl (fun _ => rfl) (fun _ => X_load1 rfl rfl (by exact idx2) rfl rfl) ?_
                  refine RG_val rfl rfl (fun _ => rfl) (fun _ => X_eql_f rfl rfl rfl (by omega)) ?_
                  refine RG_val rfl rfl (fun _ => rfl) (fun _ => X_pick_f rfl rfl rfl) ?_
                  refine RG_val rfl rfl (fun _ => rfl) (fun _ => X_move rfl rfl) ?_
                  refine RG_val rfl rfl (fun _ => rfl) (fun _ => X_fieldAddr rfl rfl rfl (by simp only [Nat.zero_add] <;> rfl)) ?_
                  refine RG_val rfl rfl (fun _ => rfl) (fun _ => X_load1 rfl rfl (by exact idx4) rfl rfl) ?_
                  refine RG_val rfl rfl (fun _ => rfl) (fun _ => X_fieldAddr rfl rfl rfl (by simp only [Nat.zero_add] <;> rfl)) ?_
                  refine RG_val rfl rfl (fun _ => rfl) (fun _ => X_load1 rfl rfl (by exact idx3) rfl rfl) ?_
                  refine RG_nil ?_
                  refine RG_endv rfl (fun vs => by simp only [endE, List.cons_append, List.nil_append] <;> rfl) (fun vs => rfl) ?_
                  refine WL_is (X_eql_t rfl rfl rfl (by omega)) rfl rfl rfl ?_
                  refine WL_is (X_pick_f rfl rfl rfl) rfl rfl rfl ?_
                  refine WL_is (X_eqB_t rfl rfl rfl rfl (by rfl)) rfl rfl rfl ?_
                  refine WL_is (X_pick_t rfl rfl rfl) rfl rfl rfl ?_
                  refine WL_is (X_move rfl rfl) rfl rfl rfl ?_
                  refine WL_is (X_callv rfl rfl rfl Try.func10 rfl (by assumption)) rfl rfl rfl ?_
                  refine WL_is (X_pick_t rfl rfl rfl) rfl rfl rfl ?_
                  refine WL_is (X_assign rfl rfl) rfl rfl rfl ?_
                  (repeat (first | refine WL_nil ?_ | refine Then_normal ?_ | refine W_ret ?_))
                  refine Body_end rfl rfl rfl (SubR.none _) ?_
                  rfl
                · rw [decide_eq_false j3] at r2
                  refine WL_is (X_callv rfl rfl rfl Try.func20 rfl (by assumption)) rfl rfl rfl ?_
                  refine WL_is (X_neq_f rfl rfl rfl (by omega)) rfl rfl rfl ?_
                  refine WL_is (X_pick_f rfl rfl rfl) rfl rfl rfl ?_
                  refine WL_is (X_move rfl rfl) rfl rfl rfl ?_
                  refine WL_is (X_loadA rfl rfl (by exact idx2) rfl rfl rfl) rfl rfl rfl ?_
                  refine WL_is (X_callv rfl rfl rfl Try.func26 rfl (by assumption)) rfl rfl rfl ?_
                  refine WL_is (X_neq_f rfl rfl rfl (by omega)) rfl rfl rfl ?_
                  refine WL_is (X_pick_f rfl rfl rfl) rfl rfl rfl ?_
                  (repeat (first | refine WL_nil ?_ | refine Then_normal ?_ | refine W_seq ?_ | refine W_skip ?_ | refine W_false rfl ?_))
                  skip
                  refine W_region rfl ?_
                  refine WL_is (X_loadA rfl rfl (by exact idx1) rfl rfl rfl) rfl rfl rfl ?_
                  (refine WL_alloc rfl rfl rfl rfl rfl rfl ?_; intro b_)
                  refine WL_store rfl rfl rfl (by exact idx0) rfl rfl rfl rfl rfl rfl rfl rfl rfl ?_
                  (repeat (first | refine WL_nil ?_ | refine Then_normal ?_ | refine W_seq ?_))
                  skip
                  refine W_region rfl ?_
                  refine WL_is (X_fieldAddr rfl rfl rfl (by simp only [Nat.zero_add] <;> rfl)) rfl rfl rfl ?_
                  refine WL_is (X_load1 rfl rfl (by exact idx2) rfl rfl) rfl rfl rfl ?_
                  refine WL_is (X_andNot rfl rfl rfl) rfl rfl rfl ?_
                  refine WL_is (X_fieldAddr rfl rfl rfl (by simp only [Nat.zero_add] <;> rfl)) rfl rfl rfl ?_
                  refine WL_store rfl rfl rfl (by exact idx0) rfl rfl rfl rfl rfl rfl rfl rfl rfl ?_
                  (repeat (first | refine WL_nil ?_ | refine Then_normal ?_ | refine W_seq ?_))
                  skip
                  refine W_region rfl ?_
                  refine WL_is (X_loadA rfl rfl (by exact idx2) rfl rfl rfl) rfl rfl rfl ?_
                  (refine WL_alloc rfl rfl rfl rfl rfl rfl ?_; intro b_)
                  refine WL_store rfl rfl rfl (by exact idx0) rfl rfl rfl rfl rfl rfl rfl rfl rfl ?_
                  (repeat (first | refine WL_nil ?_ | refine Then_normal ?_ | refine W_seq ?_))
                  skip
                  refine W_region rfl ?_
                  refine WL_is (X_fieldAddr rfl rfl rfl (by simp only [Nat.zero_add] <;> rfl)) rfl rfl rfl ?_
                  refine WL_is (X_load1 rfl rfl (by exact idx3) rfl rfl) rfl rfl rfl ?_
                  refine WL_is (X_or rfl rfl rfl) rfl rfl rfl ?_
                  refine WL_is (X_fieldAddr rfl rfl rfl (by simp only [Nat.zero_add] <;> rfl)) rfl rfl rfl ?_
                  refine WL_store rfl rfl rfl (by exact idx0) rfl rfl rfl rfl rfl rfl rfl rfl rfl ?_
                  (repeat (first | refine WL_nil ?_ | refine Then_normal ?_ | refine W_seq ?_))
                  skip
                  refine W_draw0 24 rfl rfl rfl rfl ?_
                  refine RG_val rfl rfl (fun _ => rfl) (fun _ => X_loadA rfl rfl (by exact idx4) rfl rfl rfl) ?_
                  refine RG_val rfl rfl (fun _ => rfl) (fun _ => X_loadA rfl rfl (by exact idx1) rfl rfl rfl) ?_
                  refine RG_val rfl rfl (fun _ => rfl) (fun _ => X_loadA rfl rfl (by exact idx2) rfl rfl rfl) ?_
                  refine RG_val rfl rfl (fun _ => rfl) (fun _ => X_callv rfl rfl rfl Try.func16 rfl (by assumption)) ?_
                  refine RG_val rfl rfl (fun _ => rfl) (fun _ => X_move rfl rfl) ?_
                  refine RG_val rfl rfl (fun _ => rfl) (fun _ => X_loadA rfl rfl (by exact idx4) rfl rfl rfl) ?_
                  refine RG_val rfl rfl (fun _ => rfl) (fun _ => X_loadA rfl rfl (by exact idx0) rfl rfl rfl) ?_
                  refine RG_val rfl rfl (fun _ => rfl) (fun _ => X_loadA rfl rfl (by exact idx2) rfl rfl rfl) ?_
                  refine RG_val rfl rfl (fun _ => rfl) (fun _ => X_callv rfl rfl rfl Try.func16 rfl (by assumption)) ?_
                  refine RG_val rfl rfl (fun _ => rfl) (fun _ => X_fieldAddr rfl rfl rfl (by simp only [Nat.zero_add] <;> rfl)) ?_
                  refine RG_val rfl rfl (fun _ => rfl) (fun _ => X_load1 rfl rfl (by exact idx4) rfl rfl) ?_
                  refine RG_val rfl rfl (fun _ => rfl) (fun _ => X_eql_f rfl rfl rfl (by omega)) ?_
                  refine RG_val rfl rfl (fun _ => rfl) (fun _ => X_move rfl rfl) ?_
                  refine RG_val rfl rfl (fun _ => rfl) (fun _ => X_fieldAddr rfl rfl rfl (by simp only [Nat.zero_add] <;> rfl)) ?_
                  refine RG_val rfl rfl (fun _ => rfl) (fun _ => X_load1 rfl rfl (by exact idx4) rfl rfl) ?_
                  refine RG_val rfl rfl (fun _ => rfl) (fun _ => X_fieldAddr rfl rfl rfl (by simp only [Nat.zero_add] <;> rfl)) ?_
                  refine RG_val rfl rfl (fun _ => rfl) (fun _ => X_load1 rfl rfl (by exact idx2) rfl rfl) ?_
                  refine RG_val rfl rfl (fun _ => rfl) (fun _ => X_eql_f rfl rfl rfl (by omega)) ?_
                  refine RG_val rfl rfl (fun _ => rfl) (fun _ => X_pick_f rfl rfl rfl) ?_
                  refine RG_val rfl rfl (fun _ => rfl) (fun _ => X_move rfl rfl) ?_
                  refine RG_val rfl rfl (fun _ => rfl) (fun _ => X_fieldAddr rfl rfl rfl (by simp only [Nat.zero_add] <;> rfl)) ?_
                  refine RG_val rfl rfl (fun _ => rfl) (fun _ => X_load1 rfl rfl (by exact idx4) rfl rfl) ?_
                  refine RG_val rfl rfl (fun _ => rfl) (fun _ => X_fieldAddr rfl rfl rfl (by simp only [Nat.zero_add] <;> rfl)) ?_
                  refine RG_val rfl rfl (fun _ => rfl) (fun _ => X_load1 rfl rfl (by exact idx3) rfl rfl) ?_
                  refine RG_nil ?_
                  refine RG_endv rfl (fun vs => by simp only [endE, List.cons_append, List.nil_append] <;> rfl) (fun vs => rfl) ?_
                  refine WL_is (X_eql_f rfl rfl rfl (by omega)) rfl rfl rfl ?_
                  refine WL_is (X_pick_f rfl rfl rfl) rfl rfl rfl ?_
                  refine WL_is (X_eqB_t rfl rfl rfl rfl (by rfl)) rfl rfl rfl ?_
                  refine WL_is (X_pick_t rfl rfl rfl) rfl rfl rfl ?_
                  refine WL_is (X_move rfl rfl) rfl rfl rfl ?_
                  refine WL_is (X_callv rfl rfl rfl Try.func10 rfl (by assumption)) rfl rfl rfl ?_
                  refine WL_is (X_pick_t rfl rfl rfl) rfl rfl rfl ?_
                  refine WL_is (X_assign rfl rfl) rfl rfl rfl ?_
                  (repeat (first | refine WL_nil ?_ | refine Then_normal ?_ | refine W_ret ?_))
                  refine Body_end rfl rfl rfl (SubR.none _) ?_
                  rfl
          · rw [if_neg hl4] at k3
            refine WL_is (X_callv rfl rfl rfl Try.func20 rfl (by assumption)) rfl rfl rfl ?_
            refine WL_is (X_neq_f rfl rfl rfl (by omega)) rfl rfl rfl ?_
            refine WL_is (X_pick_f rfl rfl rfl) rfl rfl rfl ?_
            refine WL_is (X_move rfl rfl) rfl rfl rfl ?_
            refine WL_is (X_loadA rfl rfl (by exact idx2) rfl rfl rfl) rfl rfl rfl ?_
            refine WL_is (X_callv rfl rfl rfl Try.func26 rfl (by assumption)) rfl rfl rfl ?_
            refine WL_is (X_neq_t rfl rfl rfl (by omega)) rfl rfl rfl ?_
            refine WL_is (X_pick_f rfl rfl rfl) rfl rfl rfl ?_
            (repeat (first | refine WL_nil ?_ | refine Then_normal ?_ | refine W_seq ?_ | refine W_true rfl ?_))
            skip
            refine W_region rfl ?_
            refine WL_is (X_callv rfl rfl rfl Try.func10 rfl (by assumption)) rfl rfl rfl ?_
            refine WL_is (X_assign rfl rfl) rfl rfl rfl ?_
            (repeat (first | refine WL_nil ?_ | refine Then_normal ?_ | refine W_ret ?_ | refine Then_ret ?_))
            refine Body_end rfl rfl rfl (SubR.none _) ?_
            rfl
end Go.Proofs.Ytligadbnoiibnaa
