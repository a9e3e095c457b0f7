/- Who may do what: the groups' perms, and the perms one of which has to grant. -/
import Derived.Test.YtjampjbhaekjbaaGrantB
namespace Go.Proofs.Ytjampjbhaekjbaa
open Go Go.Par PH
abbrev aclC (a : Acl) (u g : Value) : List Value := [.int .u8 a.o, .int .u8 a.g, .int .u8 a.t, u, g, .bool a.hm, .int .u8 a.m]
def groupsP (c : Cred) (a : Attr) : List Int := permsP (a.acc.gs.filter fun x => c.inB x.1) ++ (if c.inB a.gid then [a.acc.g] else [])
def choicesP (c : Cred) (a : Attr) (dir : Bool) : List Int :=
  if c.uid = 0 then (if dir then [7] else [bits .or .u8 6 (bits .and .u8 (unionP [a.acc.o, a.acc.g, a.acc.t, unionP (permsP a.acc.us), unionP (permsP a.acc.gs)]) 1)])
  else if c.uid = a.uid then [a.acc.o]
  else match a.acc.us.find? (fun x => decide (x.1 = c.uid)) with
    | some x => [bits .and .u8 x.2 (maskP a.acc)]
    | none => if groupsP c a = [] then [a.acc.t] else (groupsP c a).map fun x => bits .and .u8 x (maskP a.acc)
theorem groupsP_len (c : Cred) (a : Attr) : (groupsP c a).length ≤ a.acc.gs.length + 1 := by
  unfold groupsP permsP
  have := List.length_filter_le (fun x : Int × Int => c.inB x.1) a.acc.gs
  simp only [List.length_append, List.length_map]
  split <;> simp <;> omega
attribute [local irreducible] W WL Does Exec Body Then inBlk RG WR row obj pblk
attribute [local irreducible] bits
theorem closG_fn (h : PH) (c : Cred) (x : Value) (b : Nat) (hat : At h (.pointer (some ⟨b, 0, none⟩)) (credC c x)) (hx : Sl encU16 1 h x c.gs) (hs : c.gs.length ≤ 1000) (y : Int × Int) :
    Does Try.prog 55 [.agg #[.int .u16 y.1, .int .u8 y.2], .pointer (some ⟨b, 0, none⟩)] [] h (Ret fun r _ _ => r = .bool (!c.inB y.1)) := by
  have c1 := in_fn h c (credV c x) y.1 ⟨x, rfl, hx⟩ hs
  unfold credV at c1
  refine Does_of_W Try.func55 rfl (n := 9) rfl rfl (by simp only [argE, Nat.reduceAdd] <;> rfl) ?_
  (repeat (first | refine W_seq ?_))
  skip
  refine W_region rfl ?_
  (refine WL_box rfl rfl rfl rfl rfl rfl ?_; intro b_)
  refine WL_is (X_assign rfl rfl) rfl rfl rfl ?_
  (repeat (first | refine WL_nil ?_ | refine Then_normal ?_ | refine W_seq ?_))
  skip
  refine W_region rfl ?_
  refine WL_is (X_loadA_at rfl rfl (by assumption) rfl rfl rfl) rfl rfl rfl ?_
  refine WL_is (X_fieldAddr rfl rfl rfl (by simp only [Nat.zero_add] <;> rfl)) rfl rfl rfl ?_
  refine WL_is (X_load1 rfl rfl (by exact idx0) rfl rfl) rfl rfl rfl ?_
  refine WL_is (X_callv rfl rfl rfl Try.func11 rfl (by assumption)) rfl rfl rfl ?_
  refine WL_is (X_not rfl rfl) rfl rfl rfl ?_
  refine WL_is (X_assign rfl rfl) rfl rfl rfl ?_
  (repeat (first | refine WL_nil ?_ | refine Then_normal ?_ | refine W_ret ?_))
  refine Body_end rfl rfl rfl (SubR.none _) ?_
  rfl
theorem closU_fn (h : PH) (c : Cred) (x : Value) (b : Nat) (hat : At h (.pointer (some ⟨b, 0, none⟩)) (credC c x)) (y : Int × Int) :
    Does Try.prog 38 [.agg #[.int .u16 y.1, .int .u8 y.2], .pointer (some ⟨b, 0, none⟩)] [] h (Ret fun r _ _ => r = .bool (decide (y.1 = c.uid))) := by
  refine Does_of_W Try.func38 rfl (n := 9) rfl rfl (by simp only [argE, Nat.reduceAdd] <;> rfl) ?_
  by_cases hy : y.1 = c.uid
  · (repeat (first | refine W_seq ?_))
    skip
    refine W_region rfl ?_
    (refine WL_box rfl rfl rfl rfl rfl rfl ?_; intro b_)
    refine WL_is (X_assign rfl rfl) rfl rfl rfl ?_
    (repeat (first | refine WL_nil ?_ | refine Then_normal ?_ | refine W_seq ?_))
    skip
    refine W_region rfl ?_
    refine WL_is (X_fieldAddr rfl rfl rfl (by simp only [Nat.zero_add] <;> rfl)) rfl rfl rfl ?_
    refine WL_is (X_load1 rfl rfl (by exact idx0) rfl rfl) rfl rfl rfl ?_
    refine WL_is (X_fieldAddr rfl rfl rfl (by simp only [Nat.zero_add] <;> rfl)) rfl rfl rfl ?_
    refine WL_is (X_load1_at rfl rfl (by assumption) rfl rfl) rfl rfl rfl ?_
    refine WL_is (X_eql_t rfl rfl rfl (by omega)) rfl rfl rfl ?_
    refine WL_is (X_assign rfl rfl) rfl rfl rfl ?_
    (repeat (first | refine WL_nil ?_ | refine Then_normal ?_ | refine W_ret ?_))
    refine Body_end rfl rfl rfl (SubR.none _) ?_
    rw [decide_eq_true hy]
  · (repeat (first | refine W_seq ?_))
    skip
    refine W_region rfl ?_
    (refine WL_box rfl rfl rfl rfl rfl rfl ?_; intro b_)
    refine WL_is (X_assign rfl rfl) rfl rfl rfl ?_
    (repeat (first | refine WL_nil ?_ | refine Then_normal ?_ | refine W_seq ?_))
    skip
    refine W_region rfl ?_
    refine WL_is (X_fieldAddr rfl rfl rfl (by simp only [Nat.zero_add] <;> rfl)) rfl rfl rfl ?_
    refine WL_is (X_load1 rfl rfl (by exact idx0) rfl rfl) rfl rfl rfl ?_
    refine WL_is (X_fieldAddr rfl rfl rfl (by simp only [Nat.zero_add] <;> rfl)) rfl rfl rfl ?_
    refine WL_is (X_load1_at rfl rfl (by assumption) rfl rfl) rfl rfl rfl ?_
    refine WL_is (X_eql_f rfl rfl rfl (by omega)) rfl rfl rfl ?_
    refine WL_is (X_assign rfl rfl) rfl rfl rfl ?_
    (repeat (first | refine WL_nil ?_ | refine Then_normal ?_ | refine W_ret ?_))
    refine Body_end rfl rfl rfl (SubR.none _) ?_
    rw [decide_eq_false hy]
theorem permsK_fn (h : PH) (l : List (Int × Int)) (v : Value) (hv : Sl encN 2 h v l) (hl : l.length ≤ 1000000) : Does Try.prog 41 [v] [] h (Ret fun r R' h' => Sl encU8 1 h' r (permsP l) ∧ R' = []) :=
  (perms_fn h l v hv hl).upd fun v R' h' _ e => by
    subst e
    refine (UpdE.row (enc := encU8) 0 rfl (lenB _)).mono ?_
    rintro _ h2 - ⟨rfl, hs⟩
    exact ⟨hs, rfl⟩
set_option maxHeartbeats 2000000 in
theorem groups_fn (h : PH) (c : Cred) (cv : Value) (a : Attr) (v : Value) (hc : CredV h cv c) (hv : AttrV h v a) (hs : a.small) (hcl : c.gs.length ≤ 1000) :
    Does Try.prog 39 [cv, v] [] h (Ret fun r R' _ => R' = [rowL encU8 r 5 1 (groupsP c a)]) := by
  obtain ⟨x, rfl, hx⟩ := hc
  obtain ⟨u, g, u2, g2, xv, rfl, h1, h2, h3, h4, h5⟩ := hv
  have hgl := hs.acc.2
  unfold credV attrV
  refine Does_of_W Try.func39 rfl (n := 26) rfl rfl (by simp only [argE, Nat.reduceAdd] <;> rfl) ?_
  (repeat (first | refine W_seq ?_))
  refine W_region rfl ?_
  (refine WL_box rfl rfl rfl rfl rfl rfl ?_; intro b_)
  generalize b_ = cb
  (refine WL_box rfl rfl rfl rfl rfl rfl ?_; intro b_)
  generalize b_ = ab
  refine WL_is (X_assign rfl rfl) rfl rfl rfl ?_
  (repeat (first | refine WL_nil ?_ | refine Then_normal ?_ | refine W_seq ?_))
  refine W_updE (UpdE.freeze 1 rfl) ?_
  rintro _ H1 L1 ⟨rfl, hb⟩
  have hat := At.of_blk hb
  have hx1 := hx.mono L1
  have hg1 := h2.mono L1
  simp only [List.eraseIdx_cons_succ, List.eraseIdx_cons_zero]
  skip
  refine W_region rfl ?_
  refine WL_is (X_fieldAddr rfl rfl rfl (by simp only [Nat.zero_add] <;> rfl)) rfl rfl rfl ?_
  refine WL_is (X_fieldAddr rfl rfl rfl (by simp only [Nat.reduceAdd] <;> rfl)) rfl rfl rfl ?_
  refine WL_is (X_load1 rfl rfl (by exact idx0) rfl rfl) rfl rfl rfl ?_
  refine WL_call rfl rfl rfl Try.func54 rfl rfl rfl rfl (clone_fn H1 a.acc.gs g hg1 (by omega)) ?_
  rintro _ _ H2 L2 ⟨⟨ga, gc, rfl⟩, rfl⟩
  simp only [List.cons_append, List.nil_append]
  refine WL_is (X_makeFunc rfl rfl rfl) rfl rfl rfl ?_
  refine WL_callR [_] _ rfl rfl rfl Try.func53 rfl rfl rfl rfl (perm_front 0 rfl) (deleteFuncN_fn H2 a.acc.gs ga gc (by omega) 55 _ [.pointer (some ⟨cb, 0, none⟩)] (fun y => !c.inB y.1) Try.func55 rfl (fun i hi h' hl' => closG_fn h' c x cb (hat.mono (L2.trans hl')) (hx1.mono (L2.trans hl')) hcl _)) ?_
  rintro r _ H3 L3 rfl
  simp only [List.cons_append, List.nil_append]
  refine WL_updE (UpdE.row (enc := encN) 0 rfl (lenN _)) ?_
  rintro _ H4 L4 ⟨rfl, hr⟩
  simp only [List.eraseIdx_cons_zero]
  have hfl : (a.acc.gs.filter fun y => !!c.inB y.1).length ≤ a.acc.gs.length := List.length_filter_le _ _
  simp only [Bool.not_not] at hr hfl
  obtain ⟨ra, rc, rfl⟩ := hr.shape
  refine WL_is (X_assign rfl rfl) rfl rfl rfl ?_
  (repeat (first | refine WL_nil ?_ | refine Then_normal ?_ | refine W_seq ?_))
  skip
  refine W_region rfl ?_
  refine WL_is (X_move rfl rfl) rfl rfl rfl ?_
  refine WL_callR [] _ rfl rfl rfl Try.func41 rfl rfl rfl rfl (.refl _) (perms_fn H4 _ _ hr (by omega)) ?_
  rintro r _ H5 L5 rfl
  simp only [List.cons_append, List.nil_append]
  have c1 := in_fn H5 c (credV c x) a.gid ⟨x, rfl, (((hx1.mono L2).mono L3).mono L4).mono L5⟩ hcl
  have hat5 := (((hat.mono L2).mono L3).mono L4).mono L5
  unfold credV at c1
  have hpl : (permsP (a.acc.gs.filter fun x => c.inB x.1)).length ≤ 1000 := by unfold permsP; simp only [List.length_map]; omega
  have hG : groupsP c a = permsP (a.acc.gs.filter fun x => c.inB x.1) ++ (if c.inB a.gid then [a.acc.g] else []) := rfl
  rw [hG]
  generalize permsP (a.acc.gs.filter fun x => c.inB x.1) = G at hpl ⊢
  cases hin : c.inB a.gid with
  | true =>
    rw [hin] at c1
    refine WL_is (X_assign rfl rfl) rfl rfl rfl ?_
    (repeat (first | refine WL_nil ?_ | refine Then_normal ?_ | refine W_seq ?_))
    skip
    refine W_region rfl ?_
    refine WL_is (X_loadA_at rfl rfl (by assumption) rfl rfl rfl) rfl rfl rfl ?_
    refine WL_is (X_fieldAddr rfl rfl rfl (by simp only [Nat.zero_add] <;> rfl)) rfl rfl rfl ?_
    refine WL_is (X_load1 rfl rfl (by exact idx1) rfl rfl) rfl rfl rfl ?_
    refine WL_is (X_callv rfl rfl rfl Try.func11 rfl (by assumption)) rfl rfl rfl ?_
    (repeat (first | refine WL_nil ?_ | refine Then_normal ?_ | refine W_true rfl ?_))
    skip
    refine W_region rfl ?_
    refine WL_is (X_move rfl rfl) rfl rfl rfl ?_
    refine WL_is (X_fieldAddr rfl rfl rfl (by simp only [Nat.zero_add] <;> rfl)) rfl rfl rfl ?_
    refine WL_is (X_fieldAddr rfl rfl rfl (by simp only [Nat.reduceAdd] <;> rfl)) rfl rfl rfl ?_
    refine WL_is (X_load1 rfl rfl (by exact idx1) rfl rfl) rfl rfl rfl ?_
    refine WL_buildSlice rfl rfl rfl rfl rfl rfl rfl rfl rfl rfl rfl rfl rfl ?_
    intro w
    refine WL_append (enc := encU8) (L' := [a.acc.g]) (i := 1) rfl rfl rfl elemB rfl rfl (Src.own (i := 0) (c := [.int .u8 a.acc.g]) rfl rfl) (flatB _) (by simp only [List.length_cons, List.length_nil]; omega) (by simp only [List.length_cons, List.length_nil]; omega) rfl rfl rfl ?_
    intro v'
    refine WL_is (X_assign rfl rfl) rfl rfl rfl ?_
    (repeat (first | refine WL_nil ?_ | refine Then_normal ?_ | refine W_seq ?_))
    skip
    refine W_region rfl ?_
    refine WL_is (X_move rfl rfl) rfl rfl rfl ?_
    refine WL_is (X_assign rfl rfl) rfl rfl rfl ?_
    (repeat (first | refine WL_nil ?_ | refine Then_normal ?_ | refine W_ret ?_))
    exact Body_end rfl rfl rfl (SubR.skip _ (SubR.cons _ (SubR.none _))) rfl
  | false =>
    rw [hin] at c1
    refine WL_is (X_assign rfl rfl) rfl rfl rfl ?_
    (repeat (first | refine WL_nil ?_ | refine Then_normal ?_ | refine W_seq ?_))
    skip
    refine W_region rfl ?_
    refine WL_is (X_loadA_at rfl rfl (by assumption) rfl rfl rfl) rfl rfl rfl ?_
    refine WL_is (X_fieldAddr rfl rfl rfl (by simp only [Nat.zero_add] <;> rfl)) rfl rfl rfl ?_
    refine WL_is (X_load1 rfl rfl (by exact idx1) rfl rfl) rfl rfl rfl ?_
    refine WL_is (X_callv rfl rfl rfl Try.func11 rfl (by assumption)) rfl rfl rfl ?_
    (repeat (first | refine WL_nil ?_ | refine Then_normal ?_ | refine W_seq ?_ | refine W_skip ?_ | refine W_false rfl ?_))
    skip
    refine W_region rfl ?_
    refine WL_is (X_move rfl rfl) rfl rfl rfl ?_
    refine WL_is (X_assign rfl rfl) rfl rfl rfl ?_
    (repeat (first | refine WL_nil ?_ | refine Then_normal ?_ | refine W_ret ?_))
    refine Body_end rfl rfl rfl (SubR.cons _ (SubR.none _)) ?_
    simp
structure GX where
  k : Nat
  h : PH
theorem find_idx {us : List (Int × Int)} {p : Int × Int → Bool} : us.find? p = if h : fstBy us p < us.length then some us[fstBy us p] else none := by
  split
  · rename_i h
    rw [List.find?_eq_some_iff_getElem]
    exact ⟨fstBy_at h, fstBy us p, h, rfl, fun j hj => by rw [fstBy_before (p := p) (q := us) hj (by omega)]; rfl⟩
  · rename_i h
    rw [List.find?_eq_none]
    intro x hx
    obtain ⟨j, hj, rfl⟩ := List.getElem_of_mem hx
    have := fstBy_le us p
    rw [fstBy_before (p := p) (q := us) (by omega) hj]; simp
theorem map_step {G : List Int} {f : Int → Int} {k : Nat} (hk : k < G.length) : ((G.take k).map f ++ G.drop k).set k (f G[k]) = (G.take (k + 1)).map f ++ G.drop (k + 1) := by
  rw [List.set_append_right _ _ (by simp; omega), List.drop_eq_getElem_cons hk]
  have : k - ((G.take k).map f).length = 0 := by simp; omega
  rw [this, List.set_cons_zero, List.take_succ_eq_append_getElem hk, List.map_append]; simp
set_option maxHeartbeats 4000000 in
theorem choices_fn (h : PH) (c : Cred) (cv : Value) (a : Attr) (v : Value) (dir : Bool) (hc : CredV h cv c) (hv : AttrV h v a) (hs : a.small) (hcl : c.gs.length ≤ 1000) :
    Does Try.prog 24 [cv, v, .bool dir] [] h (Ret fun r R' h' => Sl encU8 1 h' r (choicesP c a dir) ∧ R' = []) := by
  have hc' := hc
  have hv' := hv
  obtain ⟨x, rfl, hx⟩ := hc
  obtain ⟨u, g, u2, g2, xv, rfl, h1, h2, h3, h4, h5⟩ := hv
  have hgl := hs.acc.2
  have hul := hs.acc.1
  have hG := groupsP_len c a
  obtain ⟨CH, hch⟩ : ∃ CH, choicesP c a dir = CH := ⟨_, rfl⟩
  rw [hch]
  unfold choicesP at hch
  rw [find_idx] at hch
  unfold credV attrV
  refine Does_of_W Try.func24 rfl (n := 95) rfl rfl (by simp only [argE, Nat.reduceAdd] <;> rfl) ?_
  (repeat (first | refine W_seq ?_))
  refine W_region rfl ?_
  (refine WL_box rfl rfl rfl rfl rfl rfl ?_; intro b_)
  generalize b_ = cb
  (refine WL_box rfl rfl rfl rfl rfl rfl ?_; intro b_)
  generalize b_ = ab
  refine WL_is (X_assign rfl rfl) rfl rfl rfl ?_
  (repeat (first | refine WL_nil ?_ | refine Then_normal ?_ | refine W_seq ?_))
  refine W_updE (UpdE.freeze 1 rfl) ?_
  rintro _ H1 L1 ⟨rfl, hb⟩
  have hat := At.of_blk hb
  have hx1 := hx.mono L1
  have hg1 := h2.mono L1
  have hu1 := h1.mono L1
  simp only [List.eraseIdx_cons_succ, List.eraseIdx_cons_zero]
  obtain ⟨ua, uc, rfl⟩ := h1.shape
  obtain ⟨ga, gc, rfl⟩ := h2.shape
  skip
  refine W_region rfl ?_
  refine WL_is (X_fieldAddr rfl rfl rfl (by simp only [Nat.zero_add] <;> rfl)) rfl rfl rfl ?_
  refine WL_is (X_loadA rfl rfl (by exact idx0) rfl rfl rfl) rfl rfl rfl ?_
  (refine WL_alloc rfl rfl rfl rfl rfl rfl ?_; intro b_)
  refine WL_store rfl rfl rfl (by exact idx0) rfl rfl rfl rfl rfl rfl rfl rfl rfl ?_
  (repeat (first | refine WL_nil ?_ | refine Then_normal ?_ | refine W_seq ?_))
  skip
  refine W_region rfl ?_
  refine WL_is (X_fieldAddr rfl rfl rfl (by simp only [Nat.zero_add] <;> rfl)) rfl rfl rfl ?_
  refine WL_is (X_load1 rfl rfl (by exact idx0) rfl rfl) rfl rfl rfl ?_
  refine WL_is (X_makeFunc rfl rfl rfl) rfl rfl rfl ?_
  generalize b_ = lb
  have ci := indexFuncN_fn H1 a.acc.us _ hu1 (by omega) 38 _ [.pointer (some ⟨cb, 0, none⟩)] (fun y => decide (y.1 = c.uid)) Try.func38 rfl (fun i hi h' hl' => closU_fn h' c x cb (hat.mono hl') _)
  refine WL_call rfl rfl rfl Try.func37 rfl rfl rfl rfl ci ?_
  rintro _ _ H2 L2 ⟨rfl, rfl⟩
  simp only [List.nil_append]
  have hat2 := hat.mono L2
  refine WL_is (X_assign rfl rfl) rfl rfl rfl ?_
  (repeat (first | refine WL_nil ?_ | refine Then_normal ?_ | refine W_seq ?_))
  skip
  refine W_region rfl ?_
  refine WL_is (X_loadA_at rfl rfl (by assumption) rfl rfl rfl) rfl rfl rfl ?_
  refine WL_is (X_loadA rfl rfl (by exact idx1) rfl rfl rfl) rfl rfl rfl ?_
  refine WL_call rfl rfl rfl Try.func39 rfl rfl rfl rfl (groups_fn H2 c _ a _ (hc'.mono (L1.trans L2)) (hv'.mono (L1.trans L2)) hs hcl) ?_
  rintro gv _ H3 L3 rfl
  simp only [List.cons_append, List.nil_append]
  have hat3 := hat2.mono L3
  have hu3 := (hu1.mono L2).mono L3
  have hg3 := (hg1.mono L2).mono L3
  refine WL_updE (UpdE.shapeL 0 rfl) ?_
  rintro _ H3 - ⟨rfl, rfl, va, vc, rfl⟩
  refine WL_is (X_assign rfl rfl) rfl rfl rfl ?_
  (repeat (first | refine WL_nil ?_ | refine Then_normal ?_ | refine W_seq ?_ | refine W_block ?_))
  by_cases hu0 : c.uid = 0
  · rw [if_pos hu0] at hch
    cases dir with
    | true =>
      rw [if_pos rfl] at hch
      skip
      refine W_region rfl ?_
      refine WL_is (X_fieldAddr rfl rfl rfl (by simp only [Nat.zero_add] <;> rfl)) rfl rfl rfl ?_
      refine WL_is (X_load1_at rfl rfl (by assumption) rfl rfl) rfl rfl rfl ?_
      refine WL_is (X_eql_t rfl rfl rfl (by omega)) rfl rfl rfl ?_
      refine WL_is (X_move rfl rfl) rfl rfl rfl ?_
      refine WL_is (X_move rfl rfl) rfl rfl rfl ?_
      refine WL_is (X_not rfl rfl) rfl rfl rfl ?_
      refine WL_is (X_pick_t rfl rfl rfl) rfl rfl rfl ?_
      refine WL_is (X_assign rfl rfl) rfl rfl rfl ?_
      (repeat (first | refine WL_nil ?_ | refine Then_normal ?_ | refine W_seq ?_ | refine W_skip ?_ | refine W_false rfl ?_))
      skip
      refine W_region rfl ?_
      refine WL_is (X_fieldAddr rfl rfl rfl (by simp only [Nat.zero_add] <;> rfl)) rfl rfl rfl ?_
      refine WL_is (X_load1_at rfl rfl (by assumption) rfl rfl) rfl rfl rfl ?_
      refine WL_is (X_eql_t rfl rfl rfl (by omega)) rfl rfl rfl ?_
      refine WL_is (X_assign rfl rfl) rfl rfl rfl ?_
      (repeat (first | refine WL_nil ?_ | refine Then_normal ?_ | refine W_seq ?_ | refine W_exit ?_ | refine Then_exit ?_ | refine inBlk_here ?_ | refine inBlk_out rfl ?_ | refine W_true rfl ?_))
      skip
      refine W_region rfl ?_
      refine WL_buildSl (enc := encU8) [7] (lenB _) rfl rfl rfl rfl rfl rfl rfl rfl rfl rfl rfl rfl rfl rfl rfl ?_
      rintro vv H4 L4 hvv
      refine WL_is (X_assign rfl rfl) rfl rfl rfl ?_
      (repeat (first | refine WL_nil ?_ | refine Then_normal ?_ | refine W_ret ?_ | refine Then_ret ?_ | refine inBlk_ret ?_))
      exact Body_end rfl rfl rfl (SubR.none _) ⟨by rw [← hch]; exact hvv, rfl⟩
    | false =>
      rw [if_neg (by decide)] at hch
      skip
      refine W_region rfl ?_
      refine WL_is (X_fieldAddr rfl rfl rfl (by simp only [Nat.zero_add] <;> rfl)) rfl rfl rfl ?_
      refine WL_is (X_load1_at rfl rfl (by assumption) rfl rfl) rfl rfl rfl ?_
      refine WL_is (X_eql_t rfl rfl rfl (by omega)) rfl rfl rfl ?_
      refine WL_is (X_move rfl rfl) rfl rfl rfl ?_
      refine WL_is (X_move rfl rfl) rfl rfl rfl ?_
      refine WL_is (X_not rfl rfl) rfl rfl rfl ?_
      refine WL_is (X_pick_t rfl rfl rfl) rfl rfl rfl ?_
      refine WL_is (X_assign rfl rfl) rfl rfl rfl ?_
      (repeat (first | refine WL_nil ?_ | refine Then_normal ?_ | refine W_seq ?_ | refine W_exit ?_ | refine Then_exit ?_ | refine inBlk_here ?_ | refine W_true rfl ?_))
      skip
      refine W_draw0 14 rfl rfl rfl rfl ?_
      refine RG_val rfl rfl (fun _ => rfl) (fun _ => X_fieldAddr rfl rfl rfl (by simp only [Nat.zero_add] <;> rfl)) ?_
      refine RG_val rfl rfl (fun _ => rfl) (fun _ => X_load1 rfl rfl (by exact idx1) rfl rfl) ?_
      refine RG_val rfl rfl (fun _ => rfl) (fun _ => X_fieldAddr rfl rfl rfl (by simp only [Nat.zero_add] <;> rfl)) ?_
      refine RG_val rfl rfl (fun _ => rfl) (fun _ => X_load1 rfl rfl (by exact idx1) rfl rfl) ?_
      refine RG_val rfl rfl (fun _ => rfl) (fun _ => X_fieldAddr rfl rfl rfl (by simp only [Nat.zero_add] <;> rfl)) ?_
      refine RG_val rfl rfl (fun _ => rfl) (fun _ => X_load1 rfl rfl (by exact idx1) rfl rfl) ?_
      refine RG_val rfl rfl (fun _ => rfl) (fun _ => X_fieldAddr rfl rfl rfl (by simp only [Nat.zero_add] <;> rfl)) ?_
      refine RG_val rfl rfl (fun _ => rfl) (fun _ => X_load1 rfl rfl (by exact idx1) rfl rfl) ?_
      refine RG_call (.opq (fun v h' => Sl encU8 1 h' v (permsP a.acc.us)) [] (fun _ => [])) [] _ (fun _ _ _ hl x => x.mono hl) rfl (fun _ => rfl) (fun _ => rfl) Try.func41 rfl rfl rfl (fun _ => rfl) (.refl _) (fun vs h' hl _ => (permsK_fn h' a.acc.us _ (hu3.mono hl) (by omega)).wkn (fun v R' h'' _ e => ⟨e.1, by rw [e.2]; exact SubR.refl _⟩)) ?_
      refine RG_callv (.int .u8 (unionP (permsP a.acc.us))) rfl (fun _ => rfl) (fun vs => rfl) Try.func40 rfl rfl rfl (fun _ => rfl) (fun vs h' hl hf => (union_fn h' _ _ hf.1 (by unfold permsP; simp; omega)).wkn (fun v R' h'' _ e => e.1)) ?_
      refine RG_val rfl rfl (fun _ => rfl) (fun _ => X_fieldAddr rfl rfl rfl (by simp only [Nat.zero_add] <;> rfl)) ?_
      refine RG_val rfl rfl (fun _ => rfl) (fun _ => X_load1 rfl rfl (by exact idx1) rfl rfl) ?_
      refine RG_call (.opq (fun v h' => Sl encU8 1 h' v (permsP a.acc.gs)) [] (fun _ => [])) [] _ (fun _ _ _ hl x => x.mono hl) rfl (fun _ => rfl) (fun _ => rfl) Try.func41 rfl rfl rfl (fun _ => rfl) (.refl _) (fun vs h' hl _ => (permsK_fn h' a.acc.gs _ (hg3.mono hl) (by omega)).wkn (fun v R' h'' _ e => ⟨e.1, by rw [e.2]; exact SubR.refl _⟩)) ?_
      refine RG_callv (.int .u8 (unionP (permsP a.acc.gs))) rfl (fun _ => rfl) (fun vs => rfl) Try.func40 rfl rfl rfl (fun _ => rfl) (fun vs h' hl hf => (union_fn h' _ _ hf.1 (by unfold permsP; simp; omega)).wkn (fun v R' h'' _ e => e.1)) ?_
      refine RG_nil ?_
      refine RG_end rfl (fun vs => by simp only [endE, List.cons_append, List.nil_append] <;> rfl) (fun vs => by simp only [endR, List.nil_append, List.append_nil] <;> rfl) (fun vs h' hf => hf) ?_
      rintro vs H4 L4 -
      simp only [Nat.zero_add, Nat.reduceAdd]
      refine WL_buildSl (enc := encU8) [a.acc.o, a.acc.g, a.acc.t, unionP (permsP a.acc.us), unionP (permsP a.acc.gs)] (lenB _) rfl rfl rfl rfl rfl rfl rfl rfl rfl rfl rfl rfl rfl rfl rfl ?_
      rintro vv H5 L5 hvv
      refine WL_call rfl rfl rfl Try.func40 rfl rfl rfl rfl (union_fn H5 _ _ hvv (by simp only [List.length_cons, List.length_nil]; omega)) ?_
      rintro _ _ H6 L6 ⟨rfl, rfl⟩
      simp only [List.nil_append]
      refine WL_is (X_assign rfl rfl) rfl rfl rfl ?_
      (repeat (first | refine WL_nil ?_ | refine Then_normal ?_ | refine W_seq ?_))
      skip
      refine W_region rfl ?_
      refine WL_is (X_move rfl rfl) rfl rfl rfl ?_
      refine WL_is (X_and rfl rfl rfl) rfl rfl rfl ?_
      refine WL_is (X_or rfl rfl rfl) rfl rfl rfl ?_
      refine WL_buildSl (enc := encU8) [bits .or .u8 6 (bits .and .u8 (unionP [a.acc.o, a.acc.g, a.acc.t, unionP (permsP a.acc.us), unionP (permsP a.acc.gs)]) 1)] (lenB _) rfl rfl rfl rfl rfl rfl rfl rfl rfl rfl rfl rfl rfl rfl rfl ?_
      rintro ww H7 L7 hww
      refine WL_is (X_assign rfl rfl) rfl rfl rfl ?_
      (repeat (first | refine WL_nil ?_ | refine Then_normal ?_ | refine W_ret ?_ | refine Then_ret ?_ | refine inBlk_ret ?_))
      exact Body_end rfl rfl rfl (SubR.none _) ⟨by rw [← hch]; exact hww, rfl⟩
  · rw [if_neg hu0] at hch
    by_cases hua : c.uid = a.uid
    · rw [if_pos hua] at hch
      skip
      refine W_region rfl ?_
      refine WL_is (X_fieldAddr rfl rfl rfl (by simp only [Nat.zero_add] <;> rfl)) rfl rfl rfl ?_
      refine WL_is (X_load1_at rfl rfl (by assumption) rfl rfl) rfl rfl rfl ?_
      refine WL_is (X_eql_f rfl rfl rfl (by omega)) rfl rfl rfl ?_
      refine WL_is (X_move rfl rfl) rfl rfl rfl ?_
      refine WL_off rfl rfl rfl ?_
      refine WL_off rfl rfl rfl ?_
      refine WL_is (X_pick_f rfl rfl rfl) rfl rfl rfl ?_
      refine WL_is (X_assign rfl rfl) rfl rfl rfl ?_
      (repeat (first | refine WL_nil ?_ | refine Then_normal ?_ | refine W_seq ?_ | refine W_skip ?_ | refine W_false rfl ?_))
      skip
      refine W_region rfl ?_
      refine WL_is (X_fieldAddr rfl rfl rfl (by simp only [Nat.zero_add] <;> rfl)) rfl rfl rfl ?_
      refine WL_is (X_load1_at rfl rfl (by assumption) rfl rfl) rfl rfl rfl ?_
      refine WL_is (X_eql_f rfl rfl rfl (by omega)) rfl rfl rfl ?_
      refine WL_is (X_assign rfl rfl) rfl rfl rfl ?_
      (repeat (first | refine WL_nil ?_ | refine Then_normal ?_ | refine W_seq ?_ | refine W_skip ?_ | refine W_false rfl ?_))
      skip
      refine W_region rfl ?_
      refine WL_is (X_fieldAddr rfl rfl rfl (by simp only [Nat.zero_add] <;> rfl)) rfl rfl rfl ?_
      refine WL_is (X_load1_at rfl rfl (by assumption) rfl rfl) rfl rfl rfl ?_
      refine WL_is (X_fieldAddr rfl rfl rfl (by simp only [Nat.zero_add] <;> rfl)) rfl rfl rfl ?_
      refine WL_is (X_load1 rfl rfl (by exact idx2) rfl rfl) rfl rfl rfl ?_
      refine WL_is (X_eql_t rfl rfl rfl (by omega)) rfl rfl rfl ?_
      refine WL_is (X_assign rfl rfl) rfl rfl rfl ?_
      (repeat (first | refine WL_nil ?_ | refine Then_normal ?_ | refine W_seq ?_ | refine W_exit ?_ | refine Then_exit ?_ | refine inBlk_here ?_ | refine inBlk_out rfl ?_ | refine W_true rfl ?_))
      skip
      refine W_region rfl ?_
      refine WL_is (X_fieldAddr rfl rfl rfl (by simp only [Nat.zero_add] <;> rfl)) rfl rfl rfl ?_
      refine WL_is (X_load1 rfl rfl (by exact idx1) rfl rfl) rfl rfl rfl ?_
      refine WL_buildSl (enc := encU8) [a.acc.o] (lenB _) rfl rfl rfl rfl rfl rfl rfl rfl rfl rfl rfl rfl rfl rfl rfl ?_
      rintro vv H4 L4 hvv
      refine WL_is (X_assign rfl rfl) rfl rfl rfl ?_
      (repeat (first | refine WL_nil ?_ | refine Then_normal ?_ | refine W_ret ?_ | refine Then_ret ?_ | refine inBlk_ret ?_))
      exact Body_end rfl rfl rfl (SubR.none _) ⟨by rw [← hch]; exact hvv, rfl⟩
    · rw [if_neg hua] at hch
      by_cases hf : fstBy a.acc.us (fun y => decide (y.1 = c.uid)) < a.acc.us.length
      · rw [dif_pos hf] at hch
        have hI : idxV a.acc.us (fun y => decide (y.1 = c.uid)) = (fstBy a.acc.us (fun y => decide (y.1 = c.uid)) : Int) := if_pos hf
        rw [hI]
        generalize fstBy a.acc.us (fun y => decide (y.1 = c.uid)) = k0 at hf hch ⊢
        skip
        refine W_region rfl ?_
        refine WL_is (X_fieldAddr rfl rfl rfl (by simp only [Nat.zero_add] <;> rfl)) rfl rfl rfl ?_
        refine WL_is (X_load1_at rfl rfl (by assumption) rfl rfl) rfl rfl rfl ?_
        refine WL_is (X_eql_f rfl rfl rfl (by omega)) rfl rfl rfl ?_
        refine WL_is (X_move rfl rfl) rfl rfl rfl ?_
        refine WL_off rfl rfl rfl ?_
        refine WL_off rfl rfl rfl ?_
        refine WL_is (X_pick_f rfl rfl rfl) rfl rfl rfl ?_
        refine WL_is (X_assign rfl rfl) rfl rfl rfl ?_
        (repeat (first | refine WL_nil ?_ | refine Then_normal ?_ | refine W_seq ?_ | refine W_skip ?_ | refine W_false rfl ?_))
        skip
        refine W_region rfl ?_
        refine WL_is (X_fieldAddr rfl rfl rfl (by simp only [Nat.zero_add] <;> rfl)) rfl rfl rfl ?_
        refine WL_is (X_load1_at rfl rfl (by assumption) rfl rfl) rfl rfl rfl ?_
        refine WL_is (X_eql_f rfl rfl rfl (by omega)) rfl rfl rfl ?_
        refine WL_is (X_assign rfl rfl) rfl rfl rfl ?_
        (repeat (first | refine WL_nil ?_ | refine Then_normal ?_ | refine W_seq ?_ | refine W_skip ?_ | refine W_false rfl ?_))
        skip
        refine W_region rfl ?_
        refine WL_is (X_fieldAddr rfl rfl rfl (by simp only [Nat.zero_add] <;> rfl)) rfl rfl rfl ?_
        refine WL_is (X_load1_at rfl rfl (by assumption) rfl rfl) rfl rfl rfl ?_
        refine WL_is (X_fieldAddr rfl rfl rfl (by simp only [Nat.zero_add] <;> rfl)) rfl rfl rfl ?_
        refine WL_is (X_load1 rfl rfl (by exact idx2) rfl rfl) rfl rfl rfl ?_
        refine WL_is (X_eql_f rfl rfl rfl (by omega)) rfl rfl rfl ?_
        refine WL_is (X_assign rfl rfl) rfl rfl rfl ?_
        (repeat (first | refine WL_nil ?_ | refine Then_normal ?_ | refine W_seq ?_ | refine W_skip ?_ | refine W_false rfl ?_))
        skip
        refine W_region rfl ?_
        refine WL_is (X_move rfl rfl) rfl rfl rfl ?_
        refine WL_is (X_geq_t rfl rfl rfl (by omega)) rfl rfl rfl ?_
        refine WL_is (X_assign rfl rfl) rfl rfl rfl ?_
        (repeat (first | refine WL_nil ?_ | refine Then_normal ?_ | refine W_exit ?_ | refine Then_exit ?_ | refine inBlk_here ?_ | refine inBlk_out rfl ?_ | refine W_true rfl ?_))
        skip
        refine W_region rfl ?_
        refine WL_is (X_fieldAddr rfl rfl rfl (by simp only [Nat.zero_add] <;> rfl)) rfl rfl rfl ?_
        refine WL_is (X_load1 rfl rfl (by exact idx1) rfl rfl) rfl rfl rfl ?_
        refine WL_is (X_move rfl rfl) rfl rfl rfl ?_
        (refine WL_index_slN rfl rfl rfl rfl rfl (by assumption) (by omega) rfl rfl rfl ?_; intro p_ hp_)
        (refine WL_fieldAddr_at rfl rfl (by assumption) rfl rfl rfl rfl ?_; intro p_ hp_)
        refine WL_is (X_load1_at rfl rfl (by assumption) rfl rfl) rfl rfl rfl ?_
        refine WL_buildSlice rfl rfl rfl rfl rfl rfl rfl rfl rfl rfl rfl rfl rfl ?_
        intro w
        refine WL_upd (Upd.blkrow (cap := 1) (m := 1) (sz := 1) (xs := [.int .u8 a.acc.us[k0].2]) 0 rfl (Nat.le_refl _) rfl rfl) ?_
        refine WL_is (X_assign rfl rfl) rfl rfl rfl ?_
        (repeat (first | refine WL_nil ?_ | refine Then_normal ?_ | refine W_seq ?_ | refine inBlk_normal ?_))
        skip
        refine W_region rfl ?_
        refine WL_is (X_move rfl rfl) rfl rfl rfl ?_
        refine WL_is (X_len rfl rfl rfl) rfl rfl rfl ?_
        refine WL_is (X_move rfl rfl) rfl rfl rfl ?_
        (repeat (first | refine WL_nil ?_ | refine Then_normal ?_ | refine W_block ?_))
        obtain ⟨f, hf2⟩ : ∃ f : Int → Int, (fun x => bits .and .u8 x (maskP a.acc)) = f := ⟨_, rfl⟩
        have hch : [a.acc.us[k0].2].map f = CH := by rw [← hch, ← hf2]; rfl
        refine W_loop (X := GX) (L := fun x => ⟨[(79, .int .i64 (x.k : Int)), (78, .int .i64 ([a.acc.us[k0].2].length : Int)), (9, .slice (some ⟨w, 0, none⟩) [a.acc.us[k0].2].length 1), (7, .pointer (some ⟨lb, 0, none⟩))], [], [rowL encU8 (.slice (some ⟨w, 0, none⟩) [a.acc.us[k0].2].length 1) 5 1 (([a.acc.us[k0].2].take x.k).map f ++ [a.acc.us[k0].2].drop x.k), blk lb (aclC a.acc (.slice ua a.acc.us.length uc) (.slice ga a.acc.gs.length gc)) 28], x.h⟩)
          (p := fun x => x.k ≤ [a.acc.us[k0].2].length) (μ := fun x => [a.acc.us[k0].2].length - x.k) ⟨0, H3⟩ ⟨(by repeat (first | exact SubE_nil | refine SubE_cons rfl ?_)), rfl, SubR.cons _ (SubR.skip _ (SubR.cons _ (SubR.none _))), rfl⟩ (Nat.zero_le _) ?_
        rintro ⟨k, H5⟩ hk
        dsimp only at hk ⊢
        by_cases hlt : k < [a.acc.us[k0].2].length
        · have hk1 : k < 1 := hlt
          have cm := mask_fn H5 a.acc (.slice ua a.acc.us.length uc) (.slice ga a.acc.gs.length gc)
          unfold aclV at cm
          obtain ⟨M, hM⟩ : ∃ M, ([a.acc.us[k0].2].take k).map f ++ [a.acc.us[k0].2].drop k = M := ⟨_, rfl⟩
          have hML : M.length = [a.acc.us[k0].2].length := by rw [← hM]; first | (simp; done) | (simp; omega)
          have hMk : ∀ h : k < M.length, M[k] = [a.acc.us[k0].2][k] := by
            subst hM
            intro h
            rw [List.getElem_append_right (by (simp; omega))]; first | (simp; done) | (simp; congr 1; omega)
          have hset := map_step (f := f) hlt
          rw [hM] at hset ⊢
          have hkM : k < M.length := by omega
          rw [← hMk hkM] at hset
          have hfk : f M[k] = bits .and .u8 M[k] (maskP a.acc) := by rw [← hf2]
          rw [hfk] at hset
          (repeat (first | refine W_seq ?_))
          refine W_region rfl ?_
          refine WL_is (X_lss_t rfl rfl rfl (by omega)) rfl rfl rfl ?_
          (repeat (first | refine WL_nil ?_ | refine Then_normal ?_ | refine W_seq ?_ | refine W_skip ?_ | refine W_block ?_ | refine W_true rfl ?_))
          skip
          refine W_region rfl ?_
          refine WL_is (X_move rfl rfl) rfl rfl rfl ?_
          refine WL_is (X_assign rfl rfl) rfl rfl rfl ?_
          (repeat (first | refine WL_nil ?_ | refine Then_normal ?_))
          skip
          refine W_draw0 6 rfl rfl rfl rfl ?_
          refine RG_val rfl rfl (fun _ => rfl) (fun _ => X_move rfl rfl) ?_
          refine RG_val rfl rfl (fun _ => rfl) (fun _ => X_move rfl rfl) ?_
          refine RG_val rfl rfl (fun _ => rfl) (fun _ => X_index_row rfl rfl (by exact idx0) rfl rfl rfl (by omega)) ?_
          refine RG_val rfl rfl (fun _ => rfl) (fun _ => X_load_spot rfl rfl (by exact idx0) (by omega) rfl (by omega) rfl) ?_
          refine RG_val rfl rfl (fun _ => rfl) (fun _ => X_loadA rfl rfl (by exact idx1) rfl rfl rfl) ?_
          refine RG_val rfl rfl (fun _ => rfl) (fun _ => X_callv rfl rfl rfl Try.func42 rfl (by assumption)) ?_
          refine RG_nil ?_
          refine RG_endv rfl (fun vs => by simp only [endE, List.cons_append, List.nil_append] <;> rfl) (fun vs => rfl) ?_
          refine WL_is (X_and rfl rfl rfl) rfl rfl rfl ?_
          refine WL_is (X_index_row rfl rfl (by exact idx0) rfl rfl rfl (by omega)) rfl rfl rfl ?_
          refine WL_store_spot rfl rfl rfl (by exact idx0) (by omega) rfl rfl rfl rfl rfl (by omega) rfl rfl rfl rfl ?_
          (repeat (first | refine WL_nil ?_ | refine Then_normal ?_ | refine inBlk_normal ?_))
          skip
          refine W_region rfl ?_
          refine WL_is (X_addW rfl rfl rfl (by exact wrap_i64_in (by omega) (by omega))) rfl rfl rfl ?_
          refine WL_is (X_move rfl rfl) rfl rfl rfl ?_
          (repeat (first | refine WL_nil ?_ | refine Then_normal ?_))
          exact ⟨⟨k + 1, H5⟩, ⟨(by repeat (first | exact SubE_nil | refine SubE_cons rfl ?_)), rfl, SubR.of_perm (by rw [hset]; exact .refl _), rfl⟩, by dsimp only; omega, by dsimp only; omega⟩
        · have hkl : k = [a.acc.us[k0].2].length := by omega
          subst hkl
          rw [List.take_length, List.drop_length, List.append_nil]
          (repeat (first | refine W_seq ?_))
          refine W_region rfl ?_
          refine WL_is (X_lss_f rfl rfl rfl (by omega)) rfl rfl rfl ?_
          (repeat (first | refine WL_nil ?_ | refine Then_normal ?_ | refine W_seq ?_ | refine W_exit ?_ | refine Then_exit ?_ | refine inBlk_here ?_ | refine W_false rfl ?_))
          skip
          refine W_region rfl ?_
          refine WL_is (X_move rfl rfl) rfl rfl rfl ?_
          refine WL_is (X_assign rfl rfl) rfl rfl rfl ?_
          (repeat (first | refine WL_nil ?_ | refine Then_normal ?_ | refine W_ret ?_ | refine Then_ret ?_ | refine inBlk_ret ?_))
          refine Body_vals (.cons (.tmp rfl) .nil) rfl ?_
          refine (UpdE.row (enc := encU8) 0 rfl (lenB _)).then ?_
          rintro _ H6 - ⟨rfl, hr⟩
          exact UpdE.sub (R1 := []) (SubR.none _) ⟨by rw [← hch]; exact hr, rfl⟩
      · rw [dif_neg hf] at hch
        have hI : idxV a.acc.us (fun y => decide (y.1 = c.uid)) = -1 := if_neg hf
        rw [hI]
        generalize hGG : groupsP c a = G at hch hG ⊢
        by_cases hg0 : G.length = 0
        · have hnil := List.length_eq_zero_iff.1 hg0
          have hgi : ((G.length : Nat) : Int) = 0 := by omega
          rw [if_pos hnil] at hch
          skip
          refine W_region rfl ?_
          refine WL_is (X_fieldAddr rfl rfl rfl (by simp only [Nat.zero_add] <;> rfl)) rfl rfl rfl ?_
          refine WL_is (X_load1_at rfl rfl (by assumption) rfl rfl) rfl rfl rfl ?_
          refine WL_is (X_eql_f rfl rfl rfl (by omega)) rfl rfl rfl ?_
          refine WL_is (X_move rfl rfl) rfl rfl rfl ?_
          refine WL_off rfl rfl rfl ?_
          refine WL_off rfl rfl rfl ?_
          refine WL_is (X_pick_f rfl rfl rfl) rfl rfl rfl ?_
          refine WL_is (X_assign rfl rfl) rfl rfl rfl ?_
          (repeat (first | refine WL_nil ?_ | refine Then_normal ?_ | refine W_seq ?_ | refine W_skip ?_ | refine W_false rfl ?_))
          skip
          refine W_region rfl ?_
          refine WL_is (X_fieldAddr rfl rfl rfl (by simp only [Nat.zero_add] <;> rfl)) rfl rfl rfl ?_
          refine WL_is (X_load1_at rfl rfl (by assumption) rfl rfl) rfl rfl rfl ?_
          refine WL_is (X_eql_f rfl rfl rfl (by omega)) rfl rfl rfl ?_
          refine WL_is (X_assign rfl rfl) rfl rfl rfl ?_
          (repeat (first | refine WL_nil ?_ | refine Then_normal ?_ | refine W_seq ?_ | refine W_skip ?_ | refine W_false rfl ?_))
          skip
          refine W_region rfl ?_
          refine WL_is (X_fieldAddr rfl rfl rfl (by simp only [Nat.zero_add] <;> rfl)) rfl rfl rfl ?_
          refine WL_is (X_load1_at rfl rfl (by assumption) rfl rfl) rfl rfl rfl ?_
          refine WL_is (X_fieldAddr rfl rfl rfl (by simp only [Nat.zero_add] <;> rfl)) rfl rfl rfl ?_
          refine WL_is (X_load1 rfl rfl (by exact idx2) rfl rfl) rfl rfl rfl ?_
          refine WL_is (X_eql_f rfl rfl rfl (by omega)) rfl rfl rfl ?_
          refine WL_is (X_assign rfl rfl) rfl rfl rfl ?_
          (repeat (first | refine WL_nil ?_ | refine Then_normal ?_ | refine W_seq ?_ | refine W_skip ?_ | refine W_false rfl ?_))
          skip
          refine W_region rfl ?_
          refine WL_is (X_move rfl rfl) rfl rfl rfl ?_
          refine WL_is (X_geq_f rfl rfl rfl (by omega)) rfl rfl rfl ?_
          refine WL_is (X_assign rfl rfl) rfl rfl rfl ?_
          (repeat (first | refine WL_nil ?_ | refine Then_normal ?_ | refine W_seq ?_ | refine W_skip ?_ | refine W_false rfl ?_))
          skip
          refine W_region rfl ?_
          refine WL_is (X_move rfl rfl) rfl rfl rfl ?_
          refine WL_is (X_len rfl rfl rfl) rfl rfl rfl ?_
          refine WL_is (X_gtr_f rfl rfl rfl (by omega)) rfl rfl rfl ?_
          refine WL_is (X_assign rfl rfl) rfl rfl rfl ?_
          (repeat (first | refine WL_nil ?_ | refine Then_normal ?_ | refine W_seq ?_ | refine W_skip ?_ | refine W_exit ?_ | refine Then_exit ?_ | refine inBlk_here ?_ | refine inBlk_out rfl ?_ | refine W_false rfl ?_))
          skip
          refine W_region rfl ?_
          refine WL_is (X_fieldAddr rfl rfl rfl (by simp only [Nat.zero_add] <;> rfl)) rfl rfl rfl ?_
          refine WL_is (X_load1 rfl rfl (by exact idx1) rfl rfl) rfl rfl rfl ?_
          refine WL_buildSl (enc := encU8) [a.acc.t] (lenB _) rfl rfl rfl rfl rfl rfl rfl rfl rfl rfl rfl rfl rfl rfl rfl ?_
          rintro vv H4 L4 hvv
          refine WL_is (X_assign rfl rfl) rfl rfl rfl ?_
          (repeat (first | refine WL_nil ?_ | refine Then_normal ?_ | refine W_ret ?_))
          exact Body_end rfl rfl rfl (SubR.none _) ⟨by rw [← hch]; exact hvv, rfl⟩
        · have hgi : ((G.length : Nat) : Int) > 0 := by omega
          rw [if_neg (fun e => hg0 (by rw [e]; rfl))] at hch
          skip
          refine W_region rfl ?_
          refine WL_is (X_fieldAddr rfl rfl rfl (by simp only [Nat.zero_add] <;> rfl)) rfl rfl rfl ?_
          refine WL_is (X_load1_at rfl rfl (by assumption) rfl rfl) rfl rfl rfl ?_
          refine WL_is (X_eql_f rfl rfl rfl (by omega)) rfl rfl rfl ?_
          refine WL_is (X_move rfl rfl) rfl rfl rfl ?_
          refine WL_off rfl rfl rfl ?_
          refine WL_off rfl rfl rfl ?_
          refine WL_is (X_pick_f rfl rfl rfl) rfl rfl rfl ?_
          refine WL_is (X_assign rfl rfl) rfl rfl rfl ?_
          (repeat (first | refine WL_nil ?_ | refine Then_normal ?_ | refine W_seq ?_ | refine W_skip ?_ | refine W_false rfl ?_))
          skip
          refine W_region rfl ?_
          refine WL_is (X_fieldAddr rfl rfl rfl (by simp only [Nat.zero_add] <;> rfl)) rfl rfl rfl ?_
          refine WL_is (X_load1_at rfl rfl (by assumption) rfl rfl) rfl rfl rfl ?_
          refine WL_is (X_eql_f rfl rfl rfl (by omega)) rfl rfl rfl ?_
          refine WL_is (X_assign rfl rfl) rfl rfl rfl ?_
          (repeat (first | refine WL_nil ?_ | refine Then_normal ?_ | refine W_seq ?_ | refine W_skip ?_ | refine W_false rfl ?_))
          skip
          refine W_region rfl ?_
          refine WL_is (X_fieldAddr rfl rfl rfl (by simp only [Nat.zero_add] <;> rfl)) rfl rfl rfl ?_
          refine WL_is (X_load1_at rfl rfl (by assumption) rfl rfl) rfl rfl rfl ?_
          refine WL_is (X_fieldAddr rfl rfl rfl (by simp only [Nat.zero_add] <;> rfl)) rfl rfl rfl ?_
          refine WL_is (X_load1 rfl rfl (by exact idx2) rfl rfl) rfl rfl rfl ?_
          refine WL_is (X_eql_f rfl rfl rfl (by omega)) rfl rfl rfl ?_
          refine WL_is (X_assign rfl rfl) rfl rfl rfl ?_
          (repeat (first | refine WL_nil ?_ | refine Then_normal ?_ | refine W_seq ?_ | refine W_skip ?_ | refine W_false rfl ?_))
          skip
          refine W_region rfl ?_
          refine WL_is (X_move rfl rfl) rfl rfl rfl ?_
          refine WL_is (X_geq_f rfl rfl rfl (by omega)) rfl rfl rfl ?_
          refine WL_is (X_assign rfl rfl) rfl rfl rfl ?_
          (repeat (first | refine WL_nil ?_ | refine Then_normal ?_ | refine W_seq ?_ | refine W_skip ?_ | refine W_false rfl ?_))
          skip
          refine W_region rfl ?_
          refine WL_is (X_move rfl rfl) rfl rfl rfl ?_
          refine WL_is (X_len rfl rfl rfl) rfl rfl rfl ?_
          refine WL_is (X_gtr_t rfl rfl rfl (by omega)) rfl rfl rfl ?_
          refine WL_is (X_assign rfl rfl) rfl rfl rfl ?_
          (repeat (first | refine WL_nil ?_ | refine Then_normal ?_ | refine W_seq ?_ | refine W_exit ?_ | refine Then_exit ?_ | refine inBlk_here ?_ | refine inBlk_out rfl ?_ | refine W_true rfl ?_))
          obtain ⟨f, hf2⟩ : ∃ f : Int → Int, (fun x => bits .and .u8 x (maskP a.acc)) = f := ⟨_, rfl⟩
          rw [hf2] at hch
          refine W_updE (UpdE.shapePos 0 rfl (by omega)) ?_
          rintro _ H4 - ⟨rfl, rfl, rb, rfl⟩
          skip
          refine W_region rfl ?_
          refine WL_is (X_move rfl rfl) rfl rfl rfl ?_
          refine WL_is (X_len rfl rfl rfl) rfl rfl rfl ?_
          refine WL_is (X_move rfl rfl) rfl rfl rfl ?_
          (repeat (first | refine WL_nil ?_ | refine Then_normal ?_ | refine W_block ?_))
          refine W_loop (X := GX) (L := fun x => ⟨[(79, .int .i64 (x.k : Int)), (78, .int .i64 (G.length : Int)), (9, .slice (some ⟨rb, 0, none⟩) G.length vc), (7, .pointer (some ⟨lb, 0, none⟩))], [], [rowL encU8 (.slice (some ⟨rb, 0, none⟩) G.length vc) 5 1 ((G.take x.k).map f ++ G.drop x.k), blk lb (aclC a.acc (.slice ua a.acc.us.length uc) (.slice ga a.acc.gs.length gc)) 28], x.h⟩)
            (p := fun x => x.k ≤ G.length) (μ := fun x => G.length - x.k) ⟨0, H4⟩ ⟨(by repeat (first | exact SubE_nil | refine SubE_cons rfl ?_)), rfl, SubR.cons _ (SubR.cons _ (SubR.none _)), rfl⟩ (Nat.zero_le _) ?_
          rintro ⟨k, H5⟩ hk
          dsimp only at hk ⊢
          by_cases hlt : k < G.length
          · have cm := mask_fn H5 a.acc (.slice ua a.acc.us.length uc) (.slice ga a.acc.gs.length gc)
            unfold aclV at cm
            obtain ⟨M, hM⟩ : ∃ M, (G.take k).map f ++ G.drop k = M := ⟨_, rfl⟩
            have hML : M.length = G.length := by rw [← hM]; first | (simp; done) | (simp; omega)
            have hMk : ∀ h : k < M.length, M[k] = G[k] := by
              subst hM
              intro h
              rw [List.getElem_append_right (by (simp; omega))]; first | (simp; done) | (simp; congr 1; omega)
            have hset := map_step (f := f) hlt
            rw [hM] at hset ⊢
            have hkM : k < M.length := by omega
            rw [← hMk hkM] at hset
            have hfk : f M[k] = bits .and .u8 M[k] (maskP a.acc) := by rw [← hf2]
            rw [hfk] at hset
            (repeat (first | refine W_seq ?_))
            refine W_region rfl ?_
            refine WL_is (X_lss_t rfl rfl rfl (by omega)) rfl rfl rfl ?_
            (repeat (first | refine WL_nil ?_ | refine Then_normal ?_ | refine W_seq ?_ | refine W_skip ?_ | refine W_block ?_ | refine W_true rfl ?_))
            skip
            refine W_region rfl ?_
            refine WL_is (X_move rfl rfl) rfl rfl rfl ?_
            refine WL_is (X_assign rfl rfl) rfl rfl rfl ?_
            (repeat (first | refine WL_nil ?_ | refine Then_normal ?_))
            skip
            refine W_draw0 6 rfl rfl rfl rfl ?_
            refine RG_val rfl rfl (fun _ => rfl) (fun _ => X_move rfl rfl) ?_
            refine RG_val rfl rfl (fun _ => rfl) (fun _ => X_move rfl rfl) ?_
            refine RG_val rfl rfl (fun _ => rfl) (fun _ => X_index_row rfl rfl (by exact idx0) rfl rfl rfl (by omega)) ?_
            refine RG_val rfl rfl (fun _ => rfl) (fun _ => X_load_spot rfl rfl (by exact idx0) (by omega) rfl (by omega) rfl) ?_
            refine RG_val rfl rfl (fun _ => rfl) (fun _ => X_loadA rfl rfl (by exact idx1) rfl rfl rfl) ?_
            refine RG_val rfl rfl (fun _ => rfl) (fun _ => X_callv rfl rfl rfl Try.func42 rfl (by assumption)) ?_
            refine RG_nil ?_
            refine RG_endv rfl (fun vs => by simp only [endE, List.cons_append, List.nil_append] <;> rfl) (fun vs => rfl) ?_
            refine WL_is (X_and rfl rfl rfl) rfl rfl rfl ?_
            refine WL_is (X_index_row rfl rfl (by exact idx0) rfl rfl rfl (by omega)) rfl rfl rfl ?_
            refine WL_store_spot rfl rfl rfl (by exact idx0) (by omega) rfl rfl rfl rfl rfl (by omega) rfl rfl rfl rfl ?_
            (repeat (first | refine WL_nil ?_ | refine Then_normal ?_ | refine inBlk_normal ?_))
            skip
            refine W_region rfl ?_
            refine WL_is (X_addW rfl rfl rfl (by exact wrap_i64_in (by omega) (by omega))) rfl rfl rfl ?_
            refine WL_is (X_move rfl rfl) rfl rfl rfl ?_
            (repeat (first | refine WL_nil ?_ | refine Then_normal ?_))
            exact ⟨⟨k + 1, H5⟩, ⟨(by repeat (first | exact SubE_nil | refine SubE_cons rfl ?_)), rfl, SubR.of_perm (by rw [hset]; exact .refl _), rfl⟩, by dsimp only; omega, by dsimp only; omega⟩
          · have hkl : k = G.length := by omega
            subst hkl
            rw [List.take_length, List.drop_length, List.append_nil]
            (repeat (first | refine W_seq ?_))
            refine W_region rfl ?_
            refine WL_is (X_lss_f rfl rfl rfl (by omega)) rfl rfl rfl ?_
            (repeat (first | refine WL_nil ?_ | refine Then_normal ?_ | refine W_seq ?_ | refine W_exit ?_ | refine Then_exit ?_ | refine inBlk_here ?_ | refine W_false rfl ?_))
            skip
            refine W_region rfl ?_
            refine WL_is (X_move rfl rfl) rfl rfl rfl ?_
            refine WL_is (X_assign rfl rfl) rfl rfl rfl ?_
            (repeat (first | refine WL_nil ?_ | refine Then_normal ?_ | refine W_ret ?_ | refine Then_ret ?_ | refine inBlk_ret ?_))
            refine Body_vals (.cons (.tmp rfl) .nil) rfl ?_
            refine (UpdE.row (enc := encU8) 0 rfl (lenB _)).then ?_
            rintro _ H6 - ⟨rfl, hr⟩
            exact UpdE.sub (R1 := []) (SubR.none _) ⟨by rw [← hch]; exact hr, rfl⟩
end Go.Proofs.Ytjampjbhaekjbaa
