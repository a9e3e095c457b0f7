/- Who may turn attributes: copies, and the document's own. -/
import Derived.Test.YtligadbnoiibnaaOwnerC
namespace Go.Proofs.Ytligadbnoiibnaa
set_option maxRecDepth 4000
open Go Go.Par PH
theorem AttrV.wb {h : PH} {a : Attr} {b : Int} {a1 a2 a3 a4 a5 : Option Addr} {c1 c2 c3 c4 c5 : Nat} (hv : AttrV h (attrS a a1 a2 a3 a4 a5 c1 c2 c3 c4 c5) a) : AttrV h (attrS (a.wb b) a1 a2 a3 a4 a5 c1 c2 c3 c4 c5) (a.wb b) := by
  obtain ⟨_, _, _, _, _, e, q1, q2, q3, q4, q5⟩ := hv
  unfold attrS attrV at e
  injection e with e
  injection e with e
  simp only [List.cons.injEq, true_and] at e
  obtain ⟨rfl, rfl, rfl, rfl, rfl, _⟩ := e
  exact ⟨_, _, _, _, _, rfl, q1, q2, q3, q4, q5⟩
theorem Attr.wb_small {a : Attr} {b : Int} (h : a.small) : (a.wb b).small := ⟨h.acc, h.df, h.xs, h.ks⟩
attribute [local irreducible] W WL Does Exec Body Then inBlk RG WR row obj pblk
attribute [local irreducible] bits
set_option maxHeartbeats 400000 in
theorem cloneX_fn (h : PH) (l : List (ByteArray × ByteArray)) (v : Value) (hv : Sl encX 2 h v l) (hl : l.length ≤ 1000000) :
    Does Try.prog 63 [v] [] h (Ret fun r R' _ => (∃ a cap, r = .slice a l.length cap) ∧ R' = [rowL encX r 67 2 l]) := by
  obtain ⟨a, cap, hva⟩ := hv.shape
  subst hva
  refine Does_of_W Try.func63 rfl (n := 8) rfl rfl (by simp only [argE] <;> rfl) ?_
  cases a with
  | none =>
    have hl0 : l = [] := by
      obtain ⟨_, a, c, e, _, hn, _⟩ := hv
      simp only [Value.slice.injEq] at e
      exact (hn e.1.symm).1
    have hc0 : cap = 0 := by
      obtain ⟨_, a, c, e, _, hn, _⟩ := hv
      simp only [Value.slice.injEq] at e
      rw [e.2.2]; exact (hn e.1.symm).2
    subst hl0; subst hc0
    (repeat (first | refine W_seq ?_))
    skip
    refine W_region rfl ?_
    refine WL_is (X_assign rfl rfl) rfl rfl rfl ?_
    (repeat (first | refine WL_nil ?_ | refine Then_normal ?_ | refine W_seq ?_))
    skip
    refine W_region rfl ?_
    refine WL_is (X_move rfl rfl) rfl rfl rfl ?_
    refine WL_is (X_nilSl rfl rfl rfl rfl) rfl rfl rfl ?_
    (repeat (first | refine WL_nil ?_ | refine Then_normal ?_ | refine W_seq ?_ | refine W_true rfl ?_))
    skip
    refine W_region rfl ?_
    refine WL_is (X_assign rfl rfl) rfl rfl rfl ?_
    (repeat (first | refine WL_nil ?_ | refine Then_normal ?_ | refine W_ret ?_ | refine Then_ret ?_))
    refine Body_vals (.cons (.tmp rfl) .nil) rfl ?_
    exact UpdE.of (Upd.nilrow (e := 67) (sz := 2)) ⟨⟨_, _, rfl⟩, rfl⟩
  | some a =>
    (repeat (first | refine W_seq ?_))
    skip
    refine W_region rfl ?_
    refine WL_is (X_assign rfl rfl) rfl rfl rfl ?_
    (repeat (first | refine WL_nil ?_ | refine Then_normal ?_ | refine W_seq ?_))
    skip
    refine W_region rfl ?_
    refine WL_is (X_move rfl rfl) rfl rfl rfl ?_
    refine WL_is (X_nilSl rfl rfl rfl rfl) rfl rfl rfl ?_
    (repeat (first | refine WL_nil ?_ | refine Then_normal ?_ | refine W_seq ?_ | refine W_skip ?_ | refine W_false rfl ?_))
    skip
    refine W_region rfl ?_
    refine WL_buildSlice rfl rfl rfl rfl rfl rfl rfl rfl rfl rfl rfl rfl rfl ?_
    intro b
    refine WL_upd (Upd.blkrow (cap := 0) (m := 0) (sz := 2) (xs := []) 0 rfl (Nat.le_refl _) rfl rfl) ?_
    refine WL_is (X_move rfl rfl) rfl rfl rfl ?_
    refine WL_append (enc := encX) (L := []) (i := 0) rfl rfl rfl elemX rfl rfl (Src.sl hv) (flatX l) (by simp; omega) (by simp; omega) rfl rfl rfl ?_
    intro v'
    refine WL_is (X_assign rfl rfl) rfl rfl rfl ?_
    (repeat (first | refine WL_nil ?_ | refine Then_normal ?_ | refine W_ret ?_))
    refine Body_vals (.cons (.tmp rfl) .nil) rfl ?_
    refine (UpdE.shapeL 0 rfl).mono ?_
    rintro R1 h1 - ⟨e1, -, hs⟩
    exact ⟨hs, e1⟩

theorem cloneXK_fn (h : PH) (l : List (ByteArray × ByteArray)) (v : Value) (hv : Sl encX 2 h v l) (hl : l.length ≤ 1000000) : Does Try.prog 63 [v] [] h (Ret fun r R' h' => Sl encX 2 h' r l ∧ R' = []) :=
  (cloneX_fn h l v hv hl).upd fun v R' h' _ ⟨_, e⟩ => by
    subst e
    refine (UpdE.row (enc := encX) 0 rfl (lenX _)).mono ?_
    rintro _ h2 - ⟨rfl, hs⟩
    exact ⟨hs, rfl⟩
set_option maxHeartbeats 1000000 in
theorem attrCopyK_fn (h : PH) (a : Attr) (v : Value) (hv : AttrV h v a) (hs : a.small) : Does Try.prog 41 [v] [] h (Ret fun r R' h' => AttrV h' r a ∧ R' = []) := by
  obtain ⟨u, g, u2, g2, x, rfl, h1, h2, h3, h4, h5⟩ := hv
  have c1 := fun h' (hl : le h h') => copyK_fn (h := h') (v := aclV a.acc u g) ⟨u, g, rfl, h1.mono hl, h2.mono hl⟩ hs.acc
  have c2 := fun h' (hl : le h h') => copyK_fn (h := h') (v := aclV a.df u2 g2) ⟨u2, g2, rfl, h3.mono hl, h4.mono hl⟩ hs.df
  have hxl := hs.xs
  simp only [aclV] at c1 c2
  unfold attrV
  refine Does_of_W Try.func41 rfl (n := 16) rfl rfl (by simp only [argE] <;> rfl) ?_
  (repeat (first | refine W_seq ?_))
  refine W_region rfl ?_
  (refine WL_box rfl rfl rfl rfl rfl rfl ?_; intro b_)
  (refine WL_alloc rfl rfl rfl rfl rfl rfl ?_; intro b_)
  (repeat (first | refine WL_nil ?_ | refine Then_normal ?_ | refine W_seq ?_))
  skip
  refine W_draw0 10 rfl rfl rfl rfl ?_
  refine RG_val rfl rfl (fun _ => rfl) (fun _ => X_fieldAddr rfl rfl rfl (by simp only [Nat.zero_add] <;> rfl)) ?_
  refine RG_val rfl rfl (fun _ => rfl) (fun _ => X_loadA rfl rfl (by exact idx1) rfl rfl rfl) ?_
  refine RG_callo (fun v h' => AclV h' v a.acc) (fun _ _ _ hl h => h.mono hl) rfl (fun _ => rfl) (fun _ => rfl) Try.func42 rfl rfl rfl (fun _ => rfl) (fun vs h' hl _ => (c1 h' hl).wkn (fun _ _ _ _ h => h.1)) ?_
  refine RG_val rfl rfl (fun _ => rfl) (fun _ => X_fieldAddr rfl rfl rfl (by simp only [Nat.zero_add] <;> rfl)) ?_
  refine RG_val rfl rfl (fun _ => rfl) (fun _ => X_loadA rfl rfl (by exact idx1) rfl rfl rfl) ?_
  refine RG_callo (fun v h' => AclV h' v a.df) (fun _ _ _ hl h => h.mono hl) rfl (fun _ => rfl) (fun _ => rfl) Try.func42 rfl rfl rfl (fun _ => rfl) (fun vs h' hl _ => (c2 h' hl).wkn (fun _ _ _ _ h => h.1)) ?_
  refine RG_val rfl rfl (fun _ => rfl) (fun _ => X_fieldAddr rfl rfl rfl (by simp only [Nat.zero_add] <;> rfl)) ?_
  refine RG_val rfl rfl (fun _ => rfl) (fun _ => X_load1 rfl rfl (by exact idx1) rfl rfl) ?_
  refine RG_callo (fun v h' => Sl encX 2 h' v a.xs) (fun _ _ _ hl h => h.mono hl) rfl (fun _ => rfl) (fun _ => rfl) Try.func63 rfl rfl rfl (fun _ => rfl) (fun vs h' hl _ => (cloneXK_fn h' a.xs x (h5.mono hl) (by omega)).wkn (fun _ _ _ _ h => h.1)) ?_
  refine RG_val rfl rfl (fun _ => rfl) (fun _ => X_fieldAddr rfl rfl rfl (by simp only [Nat.zero_add] <;> rfl)) ?_
  refine RG_nil ?_
  refine RG_end rfl (fun vs => by simp only [endE, List.cons_append, List.nil_append] <;> rfl) (fun vs => by simp only [endR, List.nil_append, List.append_nil] <;> rfl) (fun vs h' hf => hf) ?_
  rintro vs h' hl hf
  have f1 : Sl encX 2 h' (vs 8) a.xs := hf.1
  have f2 : AclV h' (vs 5) a.df := hf.2.1
  have f3 : AclV h' (vs 2) a.acc := hf.2.2.1
  clear hf
  generalize vs 8 = v8 at *
  generalize vs 5 = v5 at *
  generalize vs 2 = v2 at *
  obtain ⟨xa, xc, rfl⟩ := f1.shape
  obtain ⟨U, G, rfl, s1, s2⟩ := f3
  obtain ⟨_, _, rfl⟩ := s1.shape
  obtain ⟨_, _, rfl⟩ := s2.shape
  obtain ⟨U2, G2, rfl, s3, s4⟩ := f2
  obtain ⟨_, _, rfl⟩ := s3.shape
  obtain ⟨_, _, rfl⟩ := s4.shape
  simp only [aclV]
  refine WL_store rfl rfl rfl (by exact idx1) rfl rfl rfl rfl rfl rfl rfl rfl rfl ?_
  refine WL_is (X_fieldAddr rfl rfl rfl (by simp only [Nat.zero_add] <;> rfl)) rfl rfl rfl ?_
  refine WL_store rfl rfl rfl (by exact idx1) rfl rfl rfl rfl rfl rfl rfl rfl rfl ?_
  refine WL_is (X_fieldAddr rfl rfl rfl (by simp only [Nat.zero_add] <;> rfl)) rfl rfl rfl ?_
  refine WL_store rfl rfl rfl (by exact idx1) rfl rfl rfl rfl rfl rfl rfl rfl rfl ?_
  (repeat (first | refine WL_nil ?_ | refine Then_normal ?_ | refine W_seq ?_))
  skip
  refine W_region rfl ?_
  refine WL_is (X_loadA rfl rfl (by exact idx1) rfl rfl rfl) rfl rfl rfl ?_
  refine WL_store rfl rfl rfl (by exact idx0) rfl rfl rfl rfl rfl rfl rfl rfl rfl ?_
  (repeat (first | refine WL_nil ?_ | refine Then_normal ?_ | refine W_ret ?_))
  refine Body_vals (.cons (.cellA rfl (by exact idx0) rfl rfl rfl) .nil) rfl ?_
  exact UpdE.sub (R1 := []) (SubR.none _) ⟨⟨_, _, _, _, _, rfl, s1, s2, s3, s4, f1⟩, rfl⟩
theorem lost_ref (h : PH) (c : Cred) (cv : Value) (a : Attr) (v : Value) (kind : Int) (hc : CredV h cv c) (hcl : c.gs.length ≤ 1000) (hv : AttrV h v a) (hs : a.small) : Does Try.prog 46 [cv, v, .int .u8 kind] [] h (Ret fun r R' h' => AttrV h' r (loseO c a kind) ∧ R' = []) := by
  have hv' := hv
  have c0 := fun h' (hl : le h h') => in_ref h' c cv a.gid (hc.mono hl) hcl
  obtain ⟨x, rfl, hx⟩ := hc
  obtain ⟨xa, xc, rfl⟩ := hx.shape
  obtain ⟨_, _, _, _, _, _, _, _, _, _, rfl⟩ := hv.shape
  unfold credV at c0 ⊢
  unfold loseO losesO
  generalize c.inB a.gid = ib at *
  refine Does_of_W Try.func46 rfl (n := 29) rfl rfl (by simp only [argE, Nat.reduceAdd] <;> rfl) ?_
  (repeat (first | refine W_seq ?_))
  skip
  refine W_region rfl ?_
  (refine WL_box rfl rfl rfl rfl rfl rfl ?_; intro b_)
  (refine WL_box rfl rfl rfl rfl rfl rfl ?_; intro b_)
  (refine WL_alloc rfl rfl rfl rfl rfl rfl ?_; intro b_)
  (repeat (first | refine WL_nil ?_ | refine Then_normal ?_ | refine W_seq ?_))
  skip
  refine W_region rfl ?_
  refine WL_is (X_loadA rfl rfl (by exact idx1) rfl rfl rfl) rfl rfl rfl ?_
  refine WL_call rfl rfl rfl Try.func11 rfl rfl rfl rfl (attrCopyK_ref h a _ hv' hs) ?_
  rintro _ _ H1 L1 ⟨hA, rfl⟩
  obtain ⟨_, _, _, _, _, _, _, _, _, _, rfl⟩ := hA.shape
  simp only [List.nil_append]
  have c1 := c0 H1 L1
  by_cases k1 : kind = 1
  · rw [decide_eq_true k1]
    by_cases k2 : c.uid = 0
    · rw [decide_eq_false (not_not_intro k2)]
      (refine WL_alloc rfl rfl rfl rfl rfl rfl ?_; intro b_)
      refine WL_store rfl rfl rfl (by exact idx0) rfl rfl rfl rfl rfl rfl rfl rfl rfl ?_
      (repeat (first | refine WL_nil ?_ | refine Then_normal ?_ | refine W_seq ?_))
      skip
      refine W_region rfl ?_
      refine WL_is (X_move rfl rfl) rfl rfl rfl ?_
      refine WL_is (X_eql_t rfl rfl rfl (by omega)) rfl rfl rfl ?_
      refine WL_is (X_move rfl rfl) rfl rfl rfl ?_
      refine WL_is (X_fieldAddr rfl rfl rfl (by simp only [Nat.zero_add] <;> rfl)) rfl rfl rfl ?_
      refine WL_is (X_load1 rfl rfl (by exact idx3) rfl rfl) rfl rfl rfl ?_
      refine WL_is (X_neq_f rfl rfl rfl (by omega)) rfl rfl rfl ?_
      refine WL_is (X_pick_t rfl rfl rfl) rfl rfl rfl ?_
      refine WL_is (X_move rfl rfl) rfl rfl rfl ?_
      refine WL_off rfl rfl rfl ?_
      refine WL_off rfl rfl rfl ?_
      refine WL_off rfl rfl rfl ?_
      refine WL_off rfl rfl rfl ?_
      refine WL_off rfl rfl rfl ?_
      refine WL_is (X_pick_f rfl rfl rfl) rfl rfl rfl ?_
      (repeat (first | refine WL_nil ?_ | refine Then_normal ?_ | refine W_seq ?_ | refine W_skip ?_ | refine W_false rfl ?_))
      skip
      refine W_region rfl ?_
      refine WL_is (X_loadA rfl rfl (by exact idx0) rfl rfl rfl) rfl rfl rfl ?_
      refine WL_store rfl rfl rfl (by exact idx1) rfl rfl rfl rfl rfl rfl rfl rfl rfl ?_
      (repeat (first | refine WL_nil ?_ | refine Then_normal ?_ | refine W_ret ?_))
      refine Body_vals (.cons (.cellA rfl (by exact idx1) rfl rfl rfl) .nil) rfl (UpdE.sub (SubR.none _) ⟨?_, rfl⟩)
      exact hA
    · rw [decide_eq_true k2]
      cases ib with
      | true =>
        (refine WL_alloc rfl rfl rfl rfl rfl rfl ?_; intro b_)
        refine WL_store rfl rfl rfl (by exact idx0) rfl rfl rfl rfl rfl rfl rfl rfl rfl ?_
        (repeat (first | refine WL_nil ?_ | refine Then_normal ?_ | refine W_seq ?_))
        skip
        refine W_region rfl ?_
        refine WL_is (X_move rfl rfl) rfl rfl rfl ?_
        refine WL_is (X_eql_t rfl rfl rfl (by omega)) rfl rfl rfl ?_
        refine WL_is (X_move rfl rfl) rfl rfl rfl ?_
        refine WL_is (X_fieldAddr rfl rfl rfl (by simp only [Nat.zero_add] <;> rfl)) rfl rfl rfl ?_
        refine WL_is (X_load1 rfl rfl (by exact idx3) rfl rfl) rfl rfl rfl ?_
        refine WL_is (X_neq_t rfl rfl rfl (by omega)) rfl rfl rfl ?_
        refine WL_is (X_pick_t rfl rfl rfl) rfl rfl rfl ?_
        refine WL_is (X_move rfl rfl) rfl rfl rfl ?_
        refine WL_is (X_loadA rfl rfl (by exact idx3) rfl rfl rfl) rfl rfl rfl ?_
        refine WL_is (X_fieldAddr rfl rfl rfl (by simp only [Nat.zero_add] <;> rfl)) rfl rfl rfl ?_
        refine WL_is (X_load1 rfl rfl (by exact idx2) rfl rfl) rfl rfl rfl ?_
        refine WL_is (X_callv rfl rfl rfl Try.func58 rfl (by assumption)) rfl rfl rfl ?_
        refine WL_is (X_not rfl rfl) rfl rfl rfl ?_
        refine WL_is (X_pick_t rfl rfl rfl) rfl rfl rfl ?_
        (repeat (first | refine WL_nil ?_ | refine Then_normal ?_ | refine W_seq ?_ | refine W_skip ?_ | refine W_false rfl ?_))
        skip
        refine W_region rfl ?_
        refine WL_is (X_loadA rfl rfl (by exact idx0) rfl rfl rfl) rfl rfl rfl ?_
        refine WL_store rfl rfl rfl (by exact idx1) rfl rfl rfl rfl rfl rfl rfl rfl rfl ?_
        (repeat (first | refine WL_nil ?_ | refine Then_normal ?_ | refine W_ret ?_))
        refine Body_vals (.cons (.cellA rfl (by exact idx1) rfl rfl rfl) .nil) rfl (UpdE.sub (SubR.none _) ⟨?_, rfl⟩)
        exact hA
      | false =>
        (refine WL_alloc rfl rfl rfl rfl rfl rfl ?_; intro b_)
        refine WL_store rfl rfl rfl (by exact idx0) rfl rfl rfl rfl rfl rfl rfl rfl rfl ?_
        (repeat (first | refine WL_nil ?_ | refine Then_normal ?_ | refine W_seq ?_))
        skip
        refine W_region rfl ?_
        refine WL_is (X_move rfl rfl) rfl rfl rfl ?_
        refine WL_is (X_eql_t rfl rfl rfl (by omega)) rfl rfl rfl ?_
        refine WL_is (X_move rfl rfl) rfl rfl rfl ?_
        refine WL_is (X_fieldAddr rfl rfl rfl (by simp only [Nat.zero_add] <;> rfl)) rfl rfl rfl ?_
        refine WL_is (X_load1 rfl rfl (by exact idx3) rfl rfl) rfl rfl rfl ?_
        refine WL_is (X_neq_t rfl rfl rfl (by omega)) rfl rfl rfl ?_
        refine WL_is (X_pick_t rfl rfl rfl) rfl rfl rfl ?_
        refine WL_is (X_move rfl rfl) rfl rfl rfl ?_
        refine WL_is (X_loadA rfl rfl (by exact idx3) rfl rfl rfl) rfl rfl rfl ?_
        refine WL_is (X_fieldAddr rfl rfl rfl (by simp only [Nat.zero_add] <;> rfl)) rfl rfl rfl ?_
        refine WL_is (X_load1 rfl rfl (by exact idx2) rfl rfl) rfl rfl rfl ?_
        refine WL_is (X_callv rfl rfl rfl Try.func58 rfl (by assumption)) rfl rfl rfl ?_
        refine WL_is (X_not rfl rfl) rfl rfl rfl ?_
        refine WL_is (X_pick_t rfl rfl rfl) rfl rfl rfl ?_
        (repeat (first | refine WL_nil ?_ | refine Then_normal ?_ | refine W_true rfl ?_))
        skip
        refine W_region rfl ?_
        refine WL_is (X_fieldAddr rfl rfl rfl (by simp only [Nat.zero_add] <;> rfl)) rfl rfl rfl ?_
        refine WL_is (X_load1 rfl rfl (by exact idx0) rfl rfl) rfl rfl rfl ?_
        refine WL_is (X_andNot rfl rfl rfl) rfl rfl rfl ?_
        refine WL_is (X_fieldAddr rfl rfl rfl (by simp only [Nat.zero_add] <;> rfl)) rfl rfl rfl ?_
        refine WL_store rfl rfl rfl (by exact idx0) rfl rfl rfl rfl rfl rfl rfl rfl rfl ?_
        (repeat (first | refine WL_nil ?_ | refine Then_normal ?_ | refine W_seq ?_))
        skip
        refine W_region rfl ?_
        refine WL_is (X_loadA rfl rfl (by exact idx0) rfl rfl rfl) rfl rfl rfl ?_
        refine WL_store rfl rfl rfl (by exact idx1) rfl rfl rfl rfl rfl rfl rfl rfl rfl ?_
        (repeat (first | refine WL_nil ?_ | refine Then_normal ?_ | refine W_ret ?_))
        refine Body_vals (.cons (.cellA rfl (by exact idx1) rfl rfl rfl) .nil) rfl (UpdE.sub (SubR.none _) ⟨?_, rfl⟩)
        exact hA.wb
  · rw [decide_eq_false k1]
    (refine WL_alloc rfl rfl rfl rfl rfl rfl ?_; intro b_)
    refine WL_store rfl rfl rfl (by exact idx0) rfl rfl rfl rfl rfl rfl rfl rfl rfl ?_
    (repeat (first | refine WL_nil ?_ | refine Then_normal ?_ | refine W_seq ?_))
    skip
    refine W_region rfl ?_
    refine WL_is (X_move rfl rfl) rfl rfl rfl ?_
    refine WL_is (X_eql_f rfl rfl rfl (by omega)) rfl rfl rfl ?_
    refine WL_is (X_move rfl rfl) rfl rfl rfl ?_
    refine WL_off rfl rfl rfl ?_
    refine WL_off rfl rfl rfl ?_
    refine WL_off rfl rfl rfl ?_
    refine WL_is (X_pick_f rfl rfl rfl) rfl rfl rfl ?_
    refine WL_is (X_move rfl rfl) rfl rfl rfl ?_
    refine WL_off rfl rfl rfl ?_
    refine WL_off rfl rfl rfl ?_
    refine WL_off rfl rfl rfl ?_
    refine WL_off rfl rfl rfl ?_
    refine WL_off rfl rfl rfl ?_
    refine WL_is (X_pick_f rfl rfl rfl) rfl rfl rfl ?_
    (repeat (first | refine WL_nil ?_ | refine Then_normal ?_ | refine W_seq ?_ | refine W_skip ?_ | refine W_false rfl ?_))
    skip
    refine W_region rfl ?_
    refine WL_is (X_loadA rfl rfl (by exact idx0) rfl rfl rfl) rfl rfl rfl ?_
    refine WL_store rfl rfl rfl (by exact idx1) rfl rfl rfl rfl rfl rfl rfl rfl rfl ?_
    (repeat (first | refine WL_nil ?_ | refine Then_normal ?_ | refine W_ret ?_))
    refine Body_vals (.cons (.cellA rfl (by exact idx1) rfl rfl rfl) .nil) rfl (UpdE.sub (SubR.none _) ⟨?_, rfl⟩)
    exact hA
theorem goes_ref (h : PH) (a : Attr) (v : Value) (hv : AttrV h v a) (hs : a.small) (hcls : a.acc.cls % 8 = a.acc.cls) : Does Try.prog 59 [v] [] h (Ret fun r R' h' => AttrV h' r (goesO a) ∧ R' = []) := by
  have hv' := hv
  obtain ⟨_, _, _, _, _, _, _, _, _, _, rfl⟩ := hv.shape
  unfold goesO
  rw [hcls]
  refine Does_of_W Try.func59 rfl (n := 20) rfl rfl (by simp only [argE] <;> rfl) ?_
  (repeat (first | refine W_seq ?_))
  skip
  refine W_region rfl ?_
  (refine WL_box rfl rfl rfl rfl rfl rfl ?_; intro b_)
  (refine WL_alloc rfl rfl rfl rfl rfl rfl ?_; intro b_)
  (repeat (first | refine WL_nil ?_ | refine Then_normal ?_ | refine W_seq ?_))
  skip
  refine W_region rfl ?_
  refine WL_is (X_loadA rfl rfl (by exact idx1) rfl rfl rfl) rfl rfl rfl ?_
  refine WL_call rfl rfl rfl Try.func11 rfl rfl rfl rfl (attrCopyK_ref h a _ hv' hs) ?_
  rintro _ _ H1 L1 ⟨hA, rfl⟩
  obtain ⟨p1, p2, p3, p4, p5, q1, q2, q3, q4, q5, rfl⟩ := hA.shape
  simp only [List.nil_append]
  have c1 := class_ref H1 a.acc (.slice p1 a.acc.us.length q1) (.slice p2 a.acc.gs.length q2)
  unfold aclV at c1
  generalize a.acc.cls = k at *
  by_cases k1 : bits .and .u8 k 1 = 0
  · rw [if_pos k1]
    (refine WL_alloc rfl rfl rfl rfl rfl rfl ?_; intro b_)
    refine WL_store rfl rfl rfl (by exact idx0) rfl rfl rfl rfl rfl rfl rfl rfl rfl ?_
    (repeat (first | refine WL_nil ?_ | refine Then_normal ?_ | refine W_seq ?_))
    skip
    refine W_region rfl ?_
    refine WL_is (X_fieldAddr rfl rfl rfl (by simp only [Nat.zero_add] <;> rfl)) rfl rfl rfl ?_
    refine WL_is (X_load1 rfl rfl (by exact idx0) rfl rfl) rfl rfl rfl ?_
    refine WL_is (X_andNot rfl rfl rfl) rfl rfl rfl ?_
    refine WL_is (X_fieldAddr rfl rfl rfl (by simp only [Nat.zero_add] <;> rfl)) rfl rfl rfl ?_
    refine WL_store rfl rfl rfl (by exact idx0) rfl rfl rfl rfl rfl rfl rfl rfl rfl ?_
    (repeat (first | refine WL_nil ?_ | refine Then_normal ?_ | refine W_seq ?_))
    skip
    refine W_region rfl ?_
    refine WL_is (X_fieldAddr rfl rfl rfl (by simp only [Nat.zero_add] <;> rfl)) rfl rfl rfl ?_
    refine WL_is (X_loadA rfl rfl (by exact idx0) rfl rfl rfl) rfl rfl rfl ?_
    refine WL_is (X_callv rfl rfl rfl Try.func56 rfl (by assumption)) rfl rfl rfl ?_
    refine WL_is (X_and rfl rfl rfl) rfl rfl rfl ?_
    refine WL_is (X_neq_f rfl rfl rfl (by omega)) rfl rfl rfl ?_
    (repeat (first | refine WL_nil ?_ | refine Then_normal ?_ | refine W_seq ?_ | refine W_skip ?_ | refine W_false rfl ?_))
    skip
    refine W_region rfl ?_
    refine WL_is (X_loadA rfl rfl (by exact idx0) rfl rfl rfl) rfl rfl rfl ?_
    refine WL_store rfl rfl rfl (by exact idx1) rfl rfl rfl rfl rfl rfl rfl rfl rfl ?_
    (repeat (first | refine WL_nil ?_ | refine Then_normal ?_ | refine W_ret ?_))
    refine Body_vals (.cons (.cellA rfl (by exact idx1) rfl rfl rfl) .nil) rfl (UpdE.sub (SubR.none _) ⟨?_, rfl⟩)
    exact hA.wb
  · rw [if_neg k1]
    (refine WL_alloc rfl rfl rfl rfl rfl rfl ?_; intro b_)
    refine WL_store rfl rfl rfl (by exact idx0) rfl rfl rfl rfl rfl rfl rfl rfl rfl ?_
    (repeat (first | refine WL_nil ?_ | refine Then_normal ?_ | refine W_seq ?_))
    skip
    refine W_region rfl ?_
    refine WL_is (X_fieldAddr rfl rfl rfl (by simp only [Nat.zero_add] <;> rfl)) rfl rfl rfl ?_
    refine WL_is (X_load1 rfl rfl (by exact idx0) rfl rfl) rfl rfl rfl ?_
    refine WL_is (X_andNot rfl rfl rfl) rfl rfl rfl ?_
    refine WL_is (X_fieldAddr rfl rfl rfl (by simp only [Nat.zero_add] <;> rfl)) rfl rfl rfl ?_
    refine WL_store rfl rfl rfl (by exact idx0) rfl rfl rfl rfl rfl rfl rfl rfl rfl ?_
    (repeat (first | refine WL_nil ?_ | refine Then_normal ?_ | refine W_seq ?_))
    skip
    refine W_region rfl ?_
    refine WL_is (X_fieldAddr rfl rfl rfl (by simp only [Nat.zero_add] <;> rfl)) rfl rfl rfl ?_
    refine WL_is (X_loadA rfl rfl (by exact idx0) rfl rfl rfl) rfl rfl rfl ?_
    refine WL_is (X_callv rfl rfl rfl Try.func56 rfl (by assumption)) rfl rfl rfl ?_
    refine WL_is (X_and rfl rfl rfl) rfl rfl rfl ?_
    refine WL_is (X_neq_t rfl rfl rfl (by omega)) rfl rfl rfl ?_
    (repeat (first | refine WL_nil ?_ | refine Then_normal ?_ | refine W_true rfl ?_))
    skip
    refine W_region rfl ?_
    refine WL_is (X_fieldAddr rfl rfl rfl (by simp only [Nat.zero_add] <;> rfl)) rfl rfl rfl ?_
    refine WL_is (X_load1 rfl rfl (by exact idx0) rfl rfl) rfl rfl rfl ?_
    refine WL_is (X_andNot rfl rfl rfl) rfl rfl rfl ?_
    refine WL_is (X_fieldAddr rfl rfl rfl (by simp only [Nat.zero_add] <;> rfl)) rfl rfl rfl ?_
    refine WL_store rfl rfl rfl (by exact idx0) rfl rfl rfl rfl rfl rfl rfl rfl rfl ?_
    (repeat (first | refine WL_nil ?_ | refine Then_normal ?_ | refine W_seq ?_))
    skip
    refine W_region rfl ?_
    refine WL_is (X_loadA rfl rfl (by exact idx0) rfl rfl rfl) rfl rfl rfl ?_
    refine WL_store rfl rfl rfl (by exact idx1) rfl rfl rfl rfl rfl rfl rfl rfl rfl ?_
    (repeat (first | refine WL_nil ?_ | refine Then_normal ?_ | refine W_ret ?_))
    refine Body_vals (.cons (.cellA rfl (by exact idx1) rfl rfl rfl) .nil) rfl (UpdE.sub (SubR.none _) ⟨?_, rfl⟩)
    exact hA.wb
end Go.Proofs.Ytligadbnoiibnaa
