/- Who may turn attributes: the walk of the law of who does not own it. -/
import Derived.Test.YtligadbnoiibnaaOwnerT
namespace Go.Proofs.Ytligadbnoiibnaa
set_option maxRecDepth 4000
open Go Go.Par PH
theorem chmod_okA {a : Acl} {b : Int} (h : a.Ok) (hb : u16 b) : (a.chmod b).Ok := by
  obtain ⟨o, g, t, us, gs, hm, m⟩ := a
  unfold u16 at hb
  cases hm
  · rw [chmod_f]
    exact ⟨by show u8 (b / 64 % 8); unfold u8; omega, by show u8 (b / 8 % 8); unfold u8; omega, by show u8 (b % 8); unfold u8; omega, h.m, h.us, h.gs⟩
  · rw [chmod_t]
    exact ⟨by show u8 (b / 64 % 8); unfold u8; omega, h.g, by show u8 (b % 8); unfold u8; omega, by show u8 (b / 8 % 8); unfold u8; omega, h.us, h.gs⟩
theorem not_owns {c : Cred} {a : Attr} (h : (mayO c a && ownsO c a) = false) (k m u g w : Int) (l : Acl) : (chmodO c a k m).1 ≠ 0 ∧ (chownO c a k u g).1 ≠ 0 ∧ (setO c a k w l).1 ≠ 0 := by
  unfold chmodO chownO setO
  cases h1 : mayO c a with
  | false =>
    have hr : rngO c a u g = false := by unfold rngO; rw [h1]; rfl
    rw [hr]
    simp
  | true =>
    rw [h1, Bool.true_and] at h
    rw [h]
    refine ⟨by simp, ?_, ?_⟩
    · cases rngO c a u g <;> simp
    · split <;> simp
theorem chown_zero {c : Cred} {a : Attr} {k u g : Int} (h : (chownO c a k u g).1 = 0) : (chownO c a k u g).2 = (if k = 1 then goesO (a.given u g) else a.given u g) ∧ u ≤ 65535 ∧ g ≤ 65535 := by
  unfold chownO at h ⊢
  cases h1 : rngO c a u g with
  | false => rw [h1] at h; exact absurd h (by simp)
  | true =>
    have hr := h1
    unfold rngO at hr
    simp only [Bool.and_eq_true, decide_eq_true_eq] at hr
    cases h2 : ownsO c a with
    | false => rw [h1, h2] at h; exact absurd h (by simp)
    | true =>
      cases h3 : passO c a u g with
      | false => rw [h1, h2, h3] at h; exact absurd h (by simp)
      | true => exact ⟨rfl, hr.2.2.1, hr.2.2.2.2⟩
theorem set_zero {c : Cred} {a : Attr} {k w : Int} {l : Acl} (h : (setO c a k w l).1 = 0) : (1 ≤ w ∧ w ≤ 3) ∧ (w = 1 ∨ k = 2) ∧ (w = 3 ∨ l.may = true) ∧ (setO c a k w l).2 = (if w = 1 then loseO c (a.acl1 l) k else if w = 2 then a.acl2 l else a.acl3) := by
  unfold setO at h ⊢
  split
  · rename_i h1
    rw [if_pos h1] at h
    split
    · rename_i h2
      rw [if_pos h2] at h
      split
      · rename_i h3
        rw [if_pos h3] at h
        split
        · rename_i h4
          exact ⟨h1.2, h3, h4, rfl⟩
        · rename_i h4; rw [if_neg h4] at h; exact absurd h (by decide)
      · rename_i h3; rw [if_neg h3] at h; exact absurd h (by decide)
    · rename_i h2; rw [if_neg h2] at h; exact absurd h (by decide)
  · rename_i h1; rw [if_neg h1] at h; exact absurd h (by decide)
theorem lose_ok {c : Cred} {a : Attr} {k : Int} (h : a.Ok) (hb : u8 (loseO c a k).bits) : (loseO c a k).Ok := ⟨hb, h.uid, h.gid, h.acc, h.df⟩
theorem AttrV.ugb {h : PH} {a : Attr} {u g b : Int} {a1 a2 a3 a4 a5 : Option Addr} {c1 c2 c3 c4 c5 : Nat} (hv : AttrV h (attrS a a1 a2 a3 a4 a5 c1 c2 c3 c4 c5) a) : AttrV h (attrS { a with uid := u, gid := g, bits := b } a1 a2 a3 a4 a5 c1 c2 c3 c4 c5) { a with uid := u, gid := g, bits := b } := by
  obtain ⟨_, _, _, _, _, e, q1, q2, q3, q4, q5⟩ := hv
  unfold attrS attrV at e
  injection e with e
  injection e with e
  simp only [List.cons.injEq, true_and] at e
  obtain ⟨rfl, rfl, rfl, rfl, rfl, _⟩ := e
  exact ⟨_, _, _, _, _, rfl, q1, q2, q3, q4, q5⟩
theorem AttrV.parts {h : PH} {a : Attr} {a1 a2 a3 a4 a5 : Option Addr} {c1 c2 c3 c4 c5 : Nat} (hv : AttrV h (attrS a a1 a2 a3 a4 a5 c1 c2 c3 c4 c5) a) : Sl encN 2 h (.slice a1 a.acc.us.length c1) a.acc.us ∧ Sl encN 2 h (.slice a2 a.acc.gs.length c2) a.acc.gs ∧ Sl encN 2 h (.slice a3 a.df.us.length c3) a.df.us ∧ Sl encN 2 h (.slice a4 a.df.gs.length c4) a.df.gs ∧ Sl encX 2 h (.slice a5 a.xs.length c5) a.xs := by
  obtain ⟨_, _, _, _, _, e, q1, q2, q3, q4, q5⟩ := hv
  unfold attrS attrV at e
  injection e with e
  injection e with e
  simp only [List.cons.injEq, true_and] at e
  obtain ⟨rfl, rfl, rfl, rfl, rfl, _⟩ := e
  exact ⟨q1, q2, q3, q4, q5⟩
attribute [local irreducible] W WL Does Exec Body Then inBlk RG WR row obj pblk
attribute [local irreducible] bits
set_option maxHeartbeats 8000000 in
theorem alone_law (h : PH) (c : Cred) (cv : Value) (a : Attr) (v : Value) (kind mode uid gid which : Int) (l : Acl) (lv : Value) (hc : CredV h cv c) (hv : AttrV h v a) (hok : a.Ok) (hm : u16 mode) (hl : AclV h lv l) (hlo : l.Ok) :
    Does Try.prog 4 [cv, v, .int .u8 kind, .int .u16 mode, .int .i64 uid, .int .i64 gid, .int .u8 which, lv] [] h (Ret fun r _ _ => r = .bool true) := by
  have c1 := large13_fn h c cv a v hc hv
  have c3 := fun h' (hh : le h h') => large_fn h' l lv (hl.mono hh)
  have hc' := hc
  have hv' := hv
  have hl' := hl
  have hmb := hm
  unfold u16 at hmb
  obtain ⟨x, rfl, hx⟩ := hc
  obtain ⟨xa, xc, rfl⟩ := hx.shape
  obtain ⟨j1, j2, j3, j4, j5, i1, i2, i3, i4, i5, rfl⟩ := hv.shape
  obtain ⟨lu, lg, rfl, l1, l2⟩ := hl
  obtain ⟨y1, z1, rfl⟩ := l1.shape
  obtain ⟨y2, z2, rfl⟩ := l2.shape
  unfold aclV at c3
  unfold aclV
  refine Does_of_W Try.func4 rfl (n := 275) rfl rfl (by simp only [argE, Nat.reduceAdd] <;> rfl) ?_
  (repeat (first | refine W_seq ?_))
  refine W_region rfl ?_
  (refine WL_box rfl rfl rfl rfl rfl rfl ?_; intro b_)
  generalize b_ = cb
  (refine WL_box rfl rfl rfl rfl rfl rfl ?_; intro b_)
  generalize b_ = ab
  (refine WL_box rfl rfl rfl rfl rfl rfl ?_; intro b_)
  generalize b_ = lb
  refine WL_is (X_assign rfl rfl) rfl rfl rfl ?_
  (repeat (first | refine WL_nil ?_ | refine Then_normal ?_ | refine W_seq ?_))
  skip
  refine W_region rfl ?_
  refine WL_is (X_loadA rfl rfl (by exact idx2) rfl rfl rfl) rfl rfl rfl ?_
  refine WL_is (X_loadA rfl rfl (by exact idx1) rfl rfl rfl) rfl rfl rfl ?_
  refine WL_call rfl rfl rfl Try.func8 rfl rfl rfl rfl c1 ?_
  rintro _ _ H1 L1 ⟨⟨b, rfl, hb⟩, rfl⟩
  simp only [List.nil_append]
  have al := alive_fn H1
  cases b with
  | true =>
    refine WL_is (X_move rfl rfl) rfl rfl rfl ?_
    refine WL_off rfl rfl rfl ?_
    refine WL_off rfl rfl rfl ?_
    refine WL_is (X_pick_t rfl rfl rfl) rfl rfl rfl ?_
    refine WL_is (X_move rfl rfl) rfl rfl rfl ?_
    refine WL_off rfl rfl rfl ?_
    refine WL_off rfl rfl rfl ?_
    refine WL_off rfl rfl rfl ?_
    refine WL_off rfl rfl rfl ?_
    refine WL_is (X_pick_t rfl rfl rfl) rfl rfl rfl ?_
    (repeat (first | refine WL_nil ?_ | refine Then_normal ?_ | refine W_seq ?_ | refine W_true rfl ?_))
    skip
    refine W_region rfl ?_
    refine WL_is (X_callv rfl rfl rfl Try.func10 rfl (by assumption)) rfl rfl rfl ?_
    refine WL_is (X_assign rfl rfl) rfl rfl rfl ?_
    (repeat (first | refine WL_nil ?_ | refine Then_normal ?_ | refine W_ret ?_ | refine Then_ret ?_))
    refine Body_end rfl rfl rfl (SubR.none _) ?_
    rfl
  | false =>
    obtain ⟨ht, h60⟩ := hb rfl
    have hs := ht.small
    have hcl : c.gs.length ≤ 1000 := by omega
    have c4 := c3 H1 L1
    by_cases hll : 100 < l.us.length ∨ 100 < l.gs.length
    · rw [decide_eq_true hll] at c4
      refine WL_is (X_move rfl rfl) rfl rfl rfl ?_
      refine WL_is (X_loadA rfl rfl (by exact idx0) rfl rfl rfl) rfl rfl rfl ?_
      refine WL_is (X_callv rfl rfl rfl Try.func9 rfl (by assumption)) rfl rfl rfl ?_
      refine WL_is (X_pick_f rfl rfl rfl) rfl rfl rfl ?_
      refine WL_is (X_move rfl rfl) rfl rfl rfl ?_
      refine WL_off rfl rfl rfl ?_
      refine WL_off rfl rfl rfl ?_
      refine WL_off rfl rfl rfl ?_
      refine WL_off rfl rfl rfl ?_
      refine WL_is (X_pick_t rfl rfl rfl) rfl rfl rfl ?_
      (repeat (first | refine WL_nil ?_ | refine Then_normal ?_ | refine W_seq ?_ | refine W_true rfl ?_))
      skip
      refine W_region rfl ?_
      refine WL_is (X_callv rfl rfl rfl Try.func10 rfl (by assumption)) rfl rfl rfl ?_
      refine WL_is (X_assign rfl rfl) rfl rfl rfl ?_
      (repeat (first | refine WL_nil ?_ | refine Then_normal ?_ | refine W_ret ?_ | refine Then_ret ?_))
      refine Body_end rfl rfl rfl (SubR.none _) ?_
      rfl
    · rw [decide_eq_false hll] at c4
      have hls : l.small := by unfold Acl.small; omega
      refine WL_is (X_move rfl rfl) rfl rfl rfl ?_
      refine WL_is (X_loadA rfl rfl (by exact idx0) rfl rfl rfl) rfl rfl rfl ?_
      refine WL_is (X_callv rfl rfl rfl Try.func9 rfl (by assumption)) rfl rfl rfl ?_
      refine WL_is (X_pick_f rfl rfl rfl) rfl rfl rfl ?_
      refine WL_is (X_move rfl rfl) rfl rfl rfl ?_
      refine WL_is (X_loadA rfl rfl (by exact idx1) rfl rfl rfl) rfl rfl rfl ?_
      refine WL_call rfl rfl rfl Try.func11 rfl rfl rfl rfl (attrCopyK_ref H1 a _ (hv'.mono L1) hs) ?_
      rintro _ _ H2 L2 ⟨hA, rfl⟩
      simp only [List.nil_append]
      have L12 := L1.trans L2
      have k1 := attrCheck_fn H2 a _ hA hs hok
      have al := alive_fn H2
      cases ham : a.may with
      | false =>
        rw [ham, if_neg (by decide)] at k1
        refine WL_is (X_callv rfl rfl rfl Try.func20 rfl (by assumption)) rfl rfl rfl ?_
        refine WL_is (X_neq_t rfl rfl rfl (by omega)) rfl rfl rfl ?_
        refine WL_is (X_pick_f rfl rfl rfl) rfl rfl rfl ?_
        (repeat (first | refine WL_nil ?_ | refine Then_normal ?_ | refine W_seq ?_ | refine W_true rfl ?_))
        skip
        refine W_region rfl ?_
        refine WL_is (X_callv rfl rfl rfl Try.func10 rfl (by assumption)) rfl rfl rfl ?_
        refine WL_is (X_assign rfl rfl) rfl rfl rfl ?_
        (repeat (first | refine WL_nil ?_ | refine Then_normal ?_ | refine W_ret ?_ | refine Then_ret ?_))
        refine Body_end rfl rfl rfl (SubR.none _) ?_
        rfl
      | true =>
        rw [ham, if_pos rfl] at k1
        have hb7 : 0 ≤ a.bits ∧ a.bits ≤ 7 := ⟨hok.bits.1, Attr.bits7 ham⟩
        have hc2 := hc'.mono L12
        have hv2 := hv'.mono L12
        have hl2 := hl'.mono L12
        unfold aclV at hl2
        refine WL_is (X_callv rfl rfl rfl Try.func20 rfl (by assumption)) rfl rfl rfl ?_
        refine WL_is (X_neq_f rfl rfl rfl (by omega)) rfl rfl rfl ?_
        refine WL_is (X_pick_f rfl rfl rfl) rfl rfl rfl ?_
        (repeat (first | refine WL_nil ?_ | refine Then_normal ?_ | refine W_seq ?_ | refine W_skip ?_ | refine W_false rfl ?_))
        skip
        refine W_region rfl ?_
        refine WL_is (X_loadA rfl rfl (by exact idx2) rfl rfl rfl) rfl rfl rfl ?_
        refine WL_is (X_loadA rfl rfl (by exact idx1) rfl rfl rfl) rfl rfl rfl ?_
        refine WL_is (X_move rfl rfl) rfl rfl rfl ?_
        refine WL_is (X_move rfl rfl) rfl rfl rfl ?_
        refine WL_call rfl rfl rfl Try.func21 rfl rfl rfl rfl (chmod13_fn H2 c _ a _ kind mode hc2 hcl hv2 hs hok hm) ?_
        rintro _ _ H3 L3 ⟨⟨v1, rfl, hv3⟩, rfl⟩
        obtain ⟨U, G, U2, G2, XV, rfl, s1, s2, s3, s4, s5⟩ := hv3
        obtain ⟨o1, w1, rfl⟩ := s1.shape
        obtain ⟨o2, w2, rfl⟩ := s2.shape
        obtain ⟨o3, w3, rfl⟩ := s3.shape
        obtain ⟨o4, w4, rfl⟩ := s4.shape
        obtain ⟨o5, w5, rfl⟩ := s5.shape
        simp only [List.nil_append]
        unfold attrV
        refine WL_is (X_move rfl rfl) rfl rfl rfl ?_
        refine WL_is (X_extract rfl rfl rfl) rfl rfl rfl ?_
        refine WL_is (X_extract rfl rfl rfl) rfl rfl rfl ?_
        (refine WL_alloc rfl rfl rfl rfl rfl rfl ?_; intro b_)
        generalize b_ = xb
        refine WL_store rfl rfl rfl (by exact idx0) rfl rfl rfl rfl rfl rfl rfl rfl rfl ?_
        refine WL_is (X_assign rfl rfl) rfl rfl rfl ?_
        (repeat (first | refine WL_nil ?_ | refine Then_normal ?_ | refine W_seq ?_))
        skip
        refine W_region rfl ?_
        refine WL_is (X_loadA rfl rfl (by exact idx3) rfl rfl rfl) rfl rfl rfl ?_
        refine WL_is (X_loadA rfl rfl (by exact idx2) rfl rfl rfl) rfl rfl rfl ?_
        refine WL_is (X_move rfl rfl) rfl rfl rfl ?_
        refine WL_is (X_move rfl rfl) rfl rfl rfl ?_
        refine WL_is (X_move rfl rfl) rfl rfl rfl ?_
        refine WL_call rfl rfl rfl Try.func22 rfl rfl rfl rfl (chown13_fn H3 c _ a _ kind uid gid (hc2.mono L3) hcl (hv2.mono L3) hs hok) ?_
        rintro _ _ H4 L4 ⟨⟨v2, rfl, hv4⟩, rfl⟩
        obtain ⟨p1, p2, p3, p4, p5, q1, q2, q3, q4, q5, rfl⟩ := hv4.shape
        simp only [List.nil_append]
        refine WL_is (X_move rfl rfl) rfl rfl rfl ?_
        refine WL_is (X_extract rfl rfl rfl) rfl rfl rfl ?_
        refine WL_is (X_extract rfl rfl rfl) rfl rfl rfl ?_
        (refine WL_alloc rfl rfl rfl rfl rfl rfl ?_; intro b_)
        generalize b_ = yb
        refine WL_store rfl rfl rfl (by exact idx0) rfl rfl rfl rfl rfl rfl rfl rfl rfl ?_
        refine WL_is (X_assign rfl rfl) rfl rfl rfl ?_
        (repeat (first | refine WL_nil ?_ | refine Then_normal ?_ | refine W_seq ?_))
        skip
        refine W_region rfl ?_
        refine WL_is (X_loadA rfl rfl (by exact idx4) rfl rfl rfl) rfl rfl rfl ?_
        refine WL_is (X_loadA rfl rfl (by exact idx3) rfl rfl rfl) rfl rfl rfl ?_
        refine WL_is (X_move rfl rfl) rfl rfl rfl ?_
        refine WL_is (X_move rfl rfl) rfl rfl rfl ?_
        refine WL_is (X_loadA rfl rfl (by exact idx2) rfl rfl rfl) rfl rfl rfl ?_
        have L34 := L3.trans L4
        refine WL_call rfl rfl rfl Try.func13 rfl rfl rfl rfl (setacl_fn H4 c _ a _ kind which l _ (hc2.mono L34) hcl (hv2.mono L34) hs hok (hl2.mono L34) hls hlo) ?_
        rintro _ _ H5 L5 ⟨⟨v3, rfl, hv5⟩, rfl⟩
        obtain ⟨m1, m2, m3, m4, m5, n1, n2, n3, n4, n5, rfl⟩ := hv5.shape
        simp only [List.nil_append]
        refine WL_is (X_move rfl rfl) rfl rfl rfl ?_
        refine WL_is (X_extract rfl rfl rfl) rfl rfl rfl ?_
        refine WL_is (X_extract rfl rfl rfl) rfl rfl rfl ?_
        (refine WL_alloc rfl rfl rfl rfl rfl rfl ?_; intro b_)
        generalize b_ = zb
        refine WL_store rfl rfl rfl (by exact idx0) rfl rfl rfl rfl rfl rfl rfl rfl rfl ?_
        refine WL_is (X_assign rfl rfl) rfl rfl rfl ?_
        (repeat (first | refine WL_nil ?_ | refine Then_normal ?_ | refine W_seq ?_))
        have L35 := L34.trans L5
        have hc5 := hc2.mono L35
        have hv6 := hv2.mono L35
        have al := alive_fn H5
        have ow := Owns_fn H5 c _ a _ hc5 hv6 hs hok
        unfold credV attrS attrV at ow
        cases hown : (mayO c a && ownsO c a) with
        | false =>
          rw [hown] at ow
          obtain ⟨g1, g2, g3⟩ := not_owns hown kind mode uid gid which l
          unfold attrS attrV
          skip
          refine W_region rfl ?_
          refine WL_is (X_loadA rfl rfl (by exact idx5) rfl rfl rfl) rfl rfl rfl ?_
          refine WL_is (X_loadA rfl rfl (by exact idx4) rfl rfl rfl) rfl rfl rfl ?_
          refine WL_is (X_callv rfl rfl rfl Try.func23 rfl (by assumption)) rfl rfl rfl ?_
          refine WL_is (X_not rfl rfl) rfl rfl rfl ?_
          (repeat (first | refine WL_nil ?_ | refine Then_normal ?_ | refine W_seq ?_ | refine W_true rfl ?_))
          skip
          refine W_region rfl ?_
          refine WL_is (X_move rfl rfl) rfl rfl rfl ?_
          refine WL_is (X_neq_t rfl rfl rfl (by omega)) rfl rfl rfl ?_
          refine WL_is (X_move rfl rfl) rfl rfl rfl ?_
          refine WL_is (X_move rfl rfl) rfl rfl rfl ?_
          refine WL_is (X_neq_t rfl rfl rfl (by omega)) rfl rfl rfl ?_
          refine WL_is (X_pick_t rfl rfl rfl) rfl rfl rfl ?_
          refine WL_is (X_move rfl rfl) rfl rfl rfl ?_
          refine WL_is (X_move rfl rfl) rfl rfl rfl ?_
          refine WL_is (X_neq_t rfl rfl rfl (by omega)) rfl rfl rfl ?_
          refine WL_is (X_pick_t rfl rfl rfl) rfl rfl rfl ?_
          refine WL_is (X_move rfl rfl) rfl rfl rfl ?_
          refine WL_is (X_callv rfl rfl rfl Try.func10 rfl (by assumption)) rfl rfl rfl ?_
          refine WL_is (X_pick_t rfl rfl rfl) rfl rfl rfl ?_
          refine WL_is (X_assign rfl rfl) rfl rfl rfl ?_
          (repeat (first | refine WL_nil ?_ | refine Then_normal ?_ | refine W_ret ?_ | refine Then_ret ?_))
          refine Body_end rfl rfl rfl (SubR.none _) ?_
          rfl
        | true =>
          rw [hown] at ow
          have hmay : mayO c a = true := by simp only [Bool.and_eq_true] at hown; exact hown.1
          have hX : chmodO c a kind mode = (0, loseO c (a.moded mode) kind) := by
            simp only [Bool.and_eq_true] at hown
            unfold chmodO
            rw [if_pos hown.1, if_pos hown.2]
          have hmb8 : 0 ≤ (a.moded mode).bits ∧ (a.moded mode).bits ≤ 7 := ⟨by show 0 ≤ mode / 512 % 8; omega, by show mode / 512 % 8 ≤ 7; omega⟩
          obtain ⟨x1, x2, x3, x4⟩ := lose_facts (c := c) (k := kind) hmb8 (moded_may ham hm)
          have x3 : bits .and .u8 (loseO c (a.moded mode) kind).bits 5 = bits .and .u8 (mode / 512 % 8) 5 := x3
          have x4 : bits .andNot .u8 (loseO c (a.moded mode) kind).bits (mode / 512 % 8) = 0 := x4
          have x5 : (loseO c (a.moded mode) kind).acc.bits = mode % 512 := chmod_bits (a := a.acc) hm
          have x6 := chmod_whole (c := c) (k := kind) (m := mode) hok ham
          have x7 : (loseO c (a.moded mode) kind).small := loseO_small (Attr.moded_small hs)
          have x8 : (loseO c (a.moded mode) kind).Ok := ⟨x2, hok.uid, hok.gid, chmod_okA hok.acc hm, hok.df⟩
          rw [hX] at s1 s2 s3 s4 s5 ⊢
          have hxv : AttrV H5 (attrV (loseO c (a.moded mode) kind) _ _ _ _ _) (loseO c (a.moded mode) kind) := ⟨_, _, _, _, _, rfl, s1.mono (L4.trans L5), s2.mono (L4.trans L5), s3.mono (L4.trans L5), s4.mono (L4.trans L5), s5.mono (L4.trans L5)⟩
          have k2 := attrCheck_fn H5 _ _ hxv x7 x8
          rw [x1, if_pos rfl] at k2
          have k3 := fun u g => bits_ref H5 _ u g x8.acc
          have k4 := fun u g => bits_ref H5 _ u g hok.acc
          have hab : u16 a.acc.bits := bits_512 hok.acc
          have k3' := k3 (.slice o1 (loseO c (a.moded mode) kind).acc.us.length w1) (.slice o2 (loseO c (a.moded mode) kind).acc.gs.length w2)
          have k4' := k4 (.slice j1 a.acc.us.length i1) (.slice j2 a.acc.gs.length i2)
          clear k3 k4
          dsimp only at s1 s2 s3 s4 s5 ⊢
          rw [x5] at k3'
          generalize loseO c (a.moded mode) kind = x_ at *
          unfold attrV at k2
          unfold aclV at k3' k4'
          unfold attrS attrV
          skip
          refine W_region rfl ?_
          refine WL_is (X_loadA rfl rfl (by exact idx5) rfl rfl rfl) rfl rfl rfl ?_
          refine WL_is (X_loadA rfl rfl (by exact idx4) rfl rfl rfl) rfl rfl rfl ?_
          refine WL_is (X_callv rfl rfl rfl Try.func23 rfl (by assumption)) rfl rfl rfl ?_
          refine WL_is (X_not rfl rfl) rfl rfl rfl ?_
          (repeat (first | refine WL_nil ?_ | refine Then_normal ?_ | refine W_seq ?_ | refine W_skip ?_ | refine W_false rfl ?_))
          skip
          refine W_region rfl ?_
          refine WL_is (X_move rfl rfl) rfl rfl rfl ?_
          refine WL_is (X_eql_t rfl rfl rfl (by omega)) rfl rfl rfl ?_
          (repeat (first | refine WL_nil ?_ | refine Then_normal ?_ | refine W_seq ?_ | refine W_true rfl ?_))
          skip
          refine W_region rfl ?_
          refine WL_is (X_loadA rfl rfl (by exact idx2) rfl rfl rfl) rfl rfl rfl ?_
          refine WL_is (X_callv rfl rfl rfl Try.func20 rfl (by assumption)) rfl rfl rfl ?_
          refine WL_is (X_neq_f rfl rfl rfl (by omega)) rfl rfl rfl ?_
          refine WL_is (X_move rfl rfl) rfl rfl rfl ?_
          refine WL_is (X_fieldAddr rfl rfl rfl (by simp only [Nat.zero_add] <;> rfl)) rfl rfl rfl ?_
          refine WL_is (X_load1 rfl rfl (by exact idx2) rfl rfl) rfl rfl rfl ?_
          refine WL_is (X_and rfl rfl rfl) rfl rfl rfl ?_
          refine WL_is (X_move rfl rfl) rfl rfl rfl ?_
          refine WL_is (X_quoW rfl rfl rfl (by omega) (by omega) (by exact wrap_u16_in (by omega) (by omega))) rfl rfl rfl ?_
          refine WL_is (X_rem rfl rfl rfl (by omega) (by omega)) rfl rfl rfl ?_
          refine WL_is (X_convW rfl rfl rfl rfl (by exact wrap_u8_in (by omega) (by omega))) rfl rfl rfl ?_
          refine WL_is (X_and rfl rfl rfl) rfl rfl rfl ?_
          refine WL_is (X_neq_f rfl rfl rfl (by omega)) rfl rfl rfl ?_
          refine WL_is (X_pick_f rfl rfl rfl) rfl rfl rfl ?_
          refine WL_is (X_move rfl rfl) rfl rfl rfl ?_
          refine WL_is (X_fieldAddr rfl rfl rfl (by simp only [Nat.zero_add] <;> rfl)) rfl rfl rfl ?_
          refine WL_is (X_load1 rfl rfl (by exact idx2) rfl rfl) rfl rfl rfl ?_
          refine WL_is (X_move rfl rfl) rfl rfl rfl ?_
          refine WL_is (X_quoW rfl rfl rfl (by omega) (by omega) (by exact wrap_u16_in (by omega) (by omega))) rfl rfl rfl ?_
          refine WL_is (X_rem rfl rfl rfl (by omega) (by omega)) rfl rfl rfl ?_
          refine WL_is (X_convW rfl rfl rfl rfl (by exact wrap_u8_in (by omega) (by omega))) rfl rfl rfl ?_
          refine WL_is (X_andNot rfl rfl rfl) rfl rfl rfl ?_
          refine WL_is (X_neq_f rfl rfl rfl (by omega)) rfl rfl rfl ?_
          refine WL_is (X_pick_f rfl rfl rfl) rfl rfl rfl ?_
          refine WL_is (X_move rfl rfl) rfl rfl rfl ?_
          refine WL_is (X_fieldAddr rfl rfl rfl (by simp only [Nat.zero_add] <;> rfl)) rfl rfl rfl ?_
          refine WL_is (X_loadA rfl rfl (by exact idx2) rfl rfl rfl) rfl rfl rfl ?_
          refine WL_is (X_callv rfl rfl rfl Try.func24 rfl (by assumption)) rfl rfl rfl ?_
          refine WL_is (X_move rfl rfl) rfl rfl rfl ?_
          refine WL_is (X_rem rfl rfl rfl (by omega) (by omega)) rfl rfl rfl ?_
          refine WL_is (X_neq_f rfl rfl rfl (by omega)) rfl rfl rfl ?_
          refine WL_is (X_pick_f rfl rfl rfl) rfl rfl rfl ?_
          (repeat (first | refine WL_nil ?_ | refine Then_normal ?_ | refine W_seq ?_ | refine W_skip ?_ | refine W_false rfl ?_))
          skip
          refine W_region rfl ?_
          refine WL_is (X_fieldAddr rfl rfl rfl (by simp only [Nat.zero_add] <;> rfl)) rfl rfl rfl ?_
          refine WL_is (X_load1 rfl rfl (by exact idx4) rfl rfl) rfl rfl rfl ?_
          refine WL_is (X_fieldAddr rfl rfl rfl (by simp only [Nat.zero_add] <;> rfl)) rfl rfl rfl ?_
          refine WL_store rfl rfl rfl (by exact idx2) rfl rfl rfl rfl rfl rfl rfl rfl rfl ?_
          (repeat (first | refine WL_nil ?_ | refine Then_normal ?_ | refine W_seq ?_))
          skip
          refine W_draw0 5 rfl rfl rfl rfl ?_
          refine RG_val rfl rfl (fun _ => rfl) (fun _ => X_fieldAddr rfl rfl rfl (by simp only [Nat.zero_add] <;> rfl)) ?_
          refine RG_val rfl rfl (fun _ => rfl) (fun _ => X_loadA rfl rfl (by exact idx2) rfl rfl rfl) ?_
          refine RG_val rfl rfl (fun _ => rfl) (fun _ => X_fieldAddr rfl rfl rfl (by simp only [Nat.zero_add] <;> rfl)) ?_
          refine RG_val rfl rfl (fun _ => rfl) (fun _ => X_loadA rfl rfl (by exact idx4) rfl rfl rfl) ?_
          refine RG_val rfl rfl (fun _ => rfl) (fun _ => X_callv rfl rfl rfl Try.func24 rfl (by assumption)) ?_
          refine RG_nil ?_
          refine RG_endv rfl (fun vs => by simp only [endE, List.cons_append, List.nil_append] <;> rfl) (fun vs => rfl) ?_
          have L45 := L4.trans L5
          refine WL_call rfl rfl rfl Try.func25 rfl rfl rfl rfl (chmodK_ref (h := H5) (a := x_.acc) (b := a.acc.bits) ⟨_, _, rfl, s1.mono L45, s2.mono L45⟩ x7.acc hab) ?_
          rintro _ _ H6 L6 ⟨⟨V, F, rfl, r1, r2⟩, rfl⟩
          obtain ⟨va, vc, rfl⟩ := r1.shape
          obtain ⟨fa, fc, rfl⟩ := r2.shape
          simp only [List.nil_append, aclV]
          have hB : AttrV H6 (attrV ({ x_.wb a.bits with acc := x_.acc.chmod a.acc.bits } : Attr) _ _ _ _ _) ({ x_.wb a.bits with acc := x_.acc.chmod a.acc.bits } : Attr) := ⟨_, _, _, _, _, rfl, r1, r2, s3.mono (L45.trans L6), s4.mono (L45.trans L6), s5.mono (L45.trans L6)⟩
          have k5 := attrSame_ref H6 _ a _ _ hB (hv6.mono L6) (by rw [x6]; exact hs) hs
          rw [decide_eq_true x6] at k5
          unfold attrS attrV at k5
          dsimp only [Attr.wb] at k5
          refine WL_is (X_fieldAddr rfl rfl rfl (by simp only [Nat.zero_add] <;> rfl)) rfl rfl rfl ?_
          refine WL_store rfl rfl rfl (by exact idx2) rfl rfl rfl rfl rfl rfl rfl rfl rfl ?_
          (repeat (first | refine WL_nil ?_ | refine Then_normal ?_ | refine W_seq ?_))
          skip
          refine W_region rfl ?_
          refine WL_is (X_loadA rfl rfl (by exact idx2) rfl rfl rfl) rfl rfl rfl ?_
          refine WL_is (X_loadA rfl rfl (by exact idx4) rfl rfl rfl) rfl rfl rfl ?_
          refine WL_is (X_callv rfl rfl rfl Try.func18 rfl (by assumption)) rfl rfl rfl ?_
          refine WL_is (X_not rfl rfl) rfl rfl rfl ?_
          (repeat (first | refine WL_nil ?_ | refine Then_normal ?_ | refine W_seq ?_ | refine W_skip ?_ | refine W_false rfl ?_))
          have hy6 := hv4.mono (L5.trans L6)
          have hz6 := hv5.mono L6
          have ysm : (chownO c a kind uid gid).2.small := chownO_small hs
          have hcz := @chown_zero c a kind uid gid
          have hsz := @set_zero c a kind which l
          have zsm : (setO c a kind which l).2.small := setO_small hs hls
          generalize hYe : (chownO c a kind uid gid).2 = Y at *
          generalize hYf : (chownO c a kind uid gid).1 = yf at *
          generalize hZe : (setO c a kind which l).2 = Z at *
          generalize hZf : (setO c a kind which l).1 = zf at *
          refine W_cutT2 (X := Unit) (L := fun _ => ⟨[(9, .pointer (some ⟨ab, 0, none⟩)), (15, .pointer (some ⟨lb, 0, none⟩)), (21, .pointer (some ⟨zb, 0, none⟩)), (22, .int .i64 zf), (2, .int .u8 kind), (6, .int .u8 which)], [],
            [blk zb (attrC Z (.slice m1 Z.acc.us.length n1) (.slice m2 Z.acc.gs.length n2) (.slice m3 Z.df.us.length n3) (.slice m4 Z.df.gs.length n4) (.slice m5 Z.xs.length n5)) 31, blk lb [.int .u8 l.o, .int .u8 l.g, .int .u8 l.t, .slice y1 l.us.length z1, .slice y2 l.gs.length z2, .bool l.hm, .int .u8 l.m] 28, blk ab (attrC a (.slice j1 a.acc.us.length i1) (.slice j2 a.acc.gs.length i2) (.slice j3 a.df.us.length i3) (.slice j4 a.df.gs.length i4) (.slice j5 a.xs.length i5)) 31], H6⟩) (fun _ => True) ?_ ?_
          · by_cases hf : yf = 0
            · obtain ⟨w1_, w2_, w3_⟩ := hcz hf
              have gf := given_facts (k := kind) (u := uid) (g := gid) hok ham
              dsimp only at gf
              rw [← w1_] at gf
              obtain ⟨t1, t2, t3, t4, t5, t6, t7⟩ := gf
              have hau := hok.uid
              have hag := hok.gid
              unfold u16 at hau hag
              have hYa : Y.acc = a.acc ∧ Y.df = a.df := by rw [w1_]; split <;> exact ⟨rfl, rfl⟩
              have yok : Y.Ok := by
                refine ⟨t2, ?_, ?_, by rw [hYa.1]; exact hok.acc, by rw [hYa.2]; exact hok.df⟩
                · rw [t5]; unfold u16; split <;> omega
                · rw [t6]; unfold u16; split <;> omega
              have hyu := yok.uid
              have hyg := yok.gid
              unfold u16 at hyu hyg
              have k6 := attrCheck_fn H6 _ _ hy6 ysm yok
              rw [t1, if_pos rfl] at k6
              have k7 := attrSame_ref H6 _ a _ _ (hy6.ugb (u := a.uid) (g := a.gid) (b := a.bits)) (hv6.mono L6) (by rw [t7]; exact hs) hs
              rw [decide_eq_true t7] at k7
              unfold attrS attrV at k6 k7
              dsimp only at k7
              by_cases d1 : 0 ≤ uid
              · rw [if_pos d1] at t5
                by_cases d2 : 0 ≤ gid
                · rw [if_pos d2] at t6
                  skip
                  refine W_region rfl ?_
                  refine WL_is (X_move rfl rfl) rfl rfl rfl ?_
                  refine WL_is (X_eql_t rfl rfl rfl (by omega)) rfl rfl rfl ?_
                  (repeat (first | refine WL_nil ?_ | refine Then_normal ?_ | refine W_seq ?_ | refine W_true rfl ?_))
                  skip
                  refine W_region rfl ?_
                  refine WL_is (X_loadA rfl rfl (by exact idx1) rfl rfl rfl) rfl rfl rfl ?_
                  refine WL_is (X_callv rfl rfl rfl Try.func20 rfl (by assumption)) rfl rfl rfl ?_
                  refine WL_is (X_neq_f rfl rfl rfl (by omega)) rfl rfl rfl ?_
                  refine WL_is (X_move rfl rfl) rfl rfl rfl ?_
                  refine WL_is (X_fieldAddr rfl rfl rfl (by simp only [Nat.zero_add] <;> rfl)) rfl rfl rfl ?_
                  refine WL_is (X_load1 rfl rfl (by exact idx1) rfl rfl) rfl rfl rfl ?_
                  refine WL_is (X_fieldAddr rfl rfl rfl (by simp only [Nat.zero_add] <;> rfl)) rfl rfl rfl ?_
                  refine WL_is (X_load1 rfl rfl (by exact idx4) rfl rfl) rfl rfl rfl ?_
                  refine WL_is (X_andNot rfl rfl rfl) rfl rfl rfl ?_
                  refine WL_is (X_neq_f rfl rfl rfl (by omega)) rfl rfl rfl ?_
                  refine WL_is (X_pick_f rfl rfl rfl) rfl rfl rfl ?_
                  refine WL_is (X_move rfl rfl) rfl rfl rfl ?_
                  refine WL_is (X_fieldAddr rfl rfl rfl (by simp only [Nat.zero_add] <;> rfl)) rfl rfl rfl ?_
                  refine WL_is (X_load1 rfl rfl (by exact idx1) rfl rfl) rfl rfl rfl ?_
                  refine WL_is (X_and rfl rfl rfl) rfl rfl rfl ?_
                  refine WL_is (X_fieldAddr rfl rfl rfl (by simp only [Nat.zero_add] <;> rfl)) rfl rfl rfl ?_
                  refine WL_is (X_load1 rfl rfl (by exact idx4) rfl rfl) rfl rfl rfl ?_
                  refine WL_is (X_and rfl rfl rfl) rfl rfl rfl ?_
                  refine WL_is (X_neq_f rfl rfl rfl (by omega)) rfl rfl rfl ?_
                  refine WL_is (X_pick_f rfl rfl rfl) rfl rfl rfl ?_
                  refine WL_is (X_move rfl rfl) rfl rfl rfl ?_
                  refine WL_is (X_move rfl rfl) rfl rfl rfl ?_
                  refine WL_is (X_geq_t rfl rfl rfl (by omega)) rfl rfl rfl ?_
                  refine WL_is (X_move rfl rfl) rfl rfl rfl ?_
                  refine WL_is (X_fieldAddr rfl rfl rfl (by simp only [Nat.zero_add] <;> rfl)) rfl rfl rfl ?_
                  refine WL_is (X_load1 rfl rfl (by exact idx1) rfl rfl) rfl rfl rfl ?_
                  refine WL_is (X_convW rfl rfl rfl rfl (by exact wrap_i64_in (by omega) (by omega))) rfl rfl rfl ?_
                  refine WL_is (X_move rfl rfl) rfl rfl rfl ?_
                  refine WL_is (X_neq_f rfl rfl rfl (by omega)) rfl rfl rfl ?_
                  refine WL_is (X_pick_t rfl rfl rfl) rfl rfl rfl ?_
                  refine WL_is (X_pick_f rfl rfl rfl) rfl rfl rfl ?_
                  refine WL_is (X_move rfl rfl) rfl rfl rfl ?_
                  refine WL_is (X_move rfl rfl) rfl rfl rfl ?_
                  refine WL_is (X_geq_t rfl rfl rfl (by omega)) rfl rfl rfl ?_
                  refine WL_is (X_move rfl rfl) rfl rfl rfl ?_
                  refine WL_is (X_fieldAddr rfl rfl rfl (by simp only [Nat.zero_add] <;> rfl)) rfl rfl rfl ?_
                  refine WL_is (X_load1 rfl rfl (by exact idx1) rfl rfl) rfl rfl rfl ?_
                  refine WL_is (X_convW rfl rfl rfl rfl (by exact wrap_i64_in (by omega) (by omega))) rfl rfl rfl ?_
                  refine WL_is (X_move rfl rfl) rfl rfl rfl ?_
                  refine WL_is (X_neq_f rfl rfl rfl (by omega)) rfl rfl rfl ?_
                  refine WL_is (X_pick_t rfl rfl rfl) rfl rfl rfl ?_
                  refine WL_is (X_pick_f rfl rfl rfl) rfl rfl rfl ?_
                  refine WL_is (X_move rfl rfl) rfl rfl rfl ?_
                  refine WL_is (X_move rfl rfl) rfl rfl rfl ?_
                  refine WL_is (X_lss_f rfl rfl rfl (by omega)) rfl rfl rfl ?_
                  refine WL_is (X_move rfl rfl) rfl rfl rfl ?_
                  refine WL_off rfl rfl rfl ?_
                  refine WL_off rfl rfl rfl ?_
                  refine WL_off rfl rfl rfl ?_
                  refine WL_off rfl rfl rfl ?_
                  refine WL_off rfl rfl rfl ?_
                  refine WL_is (X_pick_f rfl rfl rfl) rfl rfl rfl ?_
                  refine WL_is (X_pick_f rfl rfl rfl) rfl rfl rfl ?_
                  refine WL_is (X_move rfl rfl) rfl rfl rfl ?_
                  refine WL_is (X_move rfl rfl) rfl rfl rfl ?_
                  refine WL_is (X_lss_f rfl rfl rfl (by omega)) rfl rfl rfl ?_
                  refine WL_is (X_move rfl rfl) rfl rfl rfl ?_
                  refine WL_off rfl rfl rfl ?_
                  refine WL_off rfl rfl rfl ?_
                  refine WL_off rfl rfl rfl ?_
                  refine WL_off rfl rfl rfl ?_
                  refine WL_off rfl rfl rfl ?_
                  refine WL_is (X_pick_f rfl rfl rfl) rfl rfl rfl ?_
                  refine WL_is (X_pick_f rfl rfl rfl) rfl rfl rfl ?_
                  (repeat (first | refine WL_nil ?_ | refine Then_normal ?_ | refine W_seq ?_ | refine W_skip ?_ | refine W_false rfl ?_))
                  skip
                  refine W_region rfl ?_
                  refine WL_is (X_fieldAddr rfl rfl rfl (by simp only [Nat.zero_add] <;> rfl)) rfl rfl rfl ?_
                  refine WL_is (X_load1 rfl rfl (by exact idx4) rfl rfl) rfl rfl rfl ?_
                  refine WL_is (X_fieldAddr rfl rfl rfl (by simp only [Nat.zero_add] <;> rfl)) rfl rfl rfl ?_
                  refine WL_store rfl rfl rfl (by exact idx1) rfl rfl rfl rfl rfl rfl rfl rfl rfl ?_
                  (repeat (first | refine WL_nil ?_ | refine Then_normal ?_ | refine W_seq ?_))
                  skip
                  refine W_region rfl ?_
                  refine WL_is (X_fieldAddr rfl rfl rfl (by simp only [Nat.zero_add] <;> rfl)) rfl rfl rfl ?_
                  refine WL_is (X_load1 rfl rfl (by exact idx4) rfl rfl) rfl rfl rfl ?_
                  refine WL_is (X_fieldAddr rfl rfl rfl (by simp only [Nat.zero_add] <;> rfl)) rfl rfl rfl ?_
                  refine WL_store rfl rfl rfl (by exact idx1) rfl rfl rfl rfl rfl rfl rfl rfl rfl ?_
                  (repeat (first | refine WL_nil ?_ | refine Then_normal ?_ | refine W_seq ?_))
                  skip
                  refine W_region rfl ?_
                  refine WL_is (X_fieldAddr rfl rfl rfl (by simp only [Nat.zero_add] <;> rfl)) rfl rfl rfl ?_
                  refine WL_is (X_load1 rfl rfl (by exact idx4) rfl rfl) rfl rfl rfl ?_
                  refine WL_is (X_fieldAddr rfl rfl rfl (by simp only [Nat.zero_add] <;> rfl)) rfl rfl rfl ?_
                  refine WL_store rfl rfl rfl (by exact idx1) rfl rfl rfl rfl rfl rfl rfl rfl rfl ?_
                  (repeat (first | refine WL_nil ?_ | refine Then_normal ?_ | refine W_seq ?_))
                  skip
                  refine W_region rfl ?_
                  refine WL_is (X_loadA rfl rfl (by exact idx1) rfl rfl rfl) rfl rfl rfl ?_
                  refine WL_is (X_loadA rfl rfl (by exact idx4) rfl rfl rfl) rfl rfl rfl ?_
                  refine WL_is (X_callv rfl rfl rfl Try.func18 rfl (by assumption)) rfl rfl rfl ?_
                  refine WL_is (X_not rfl rfl) rfl rfl rfl ?_
                  (repeat (first | refine WL_nil ?_ | refine Then_normal ?_ | refine W_skip ?_ | refine W_false rfl ?_))
                  exact ⟨(), ⟨(by repeat (first | exact SubE_nil | refine SubE_cons rfl ?_)), rfl, SubR.cons _ (SubR.skip _ (SubR.skip _ (SubR.cons _ (SubR.cons _ (SubR.skip _ (SubR.refl _)))))), rfl⟩, trivial⟩
                · rw [if_neg d2] at t6
                  skip
                  refine W_region rfl ?_
                  refine WL_is (X_move rfl rfl) rfl rfl rfl ?_
                  refine WL_is (X_eql_t rfl rfl rfl (by omega)) rfl rfl rfl ?_
                  (repeat (first | refine WL_nil ?_ | refine Then_normal ?_ | refine W_seq ?_ | refine W_true rfl ?_))
                  skip
                  refine W_region rfl ?_
                  refine WL_is (X_loadA rfl rfl (by exact idx1) rfl rfl rfl) rfl rfl rfl ?_
                  refine WL_is (X_callv rfl rfl rfl Try.func20 rfl (by assumption)) rfl rfl rfl ?_
                  refine WL_is (X_neq_f rfl rfl rfl (by omega)) rfl rfl rfl ?_
                  refine WL_is (X_move rfl rfl) rfl rfl rfl ?_
                  refine WL_is (X_fieldAddr rfl rfl rfl (by simp only [Nat.zero_add] <;> rfl)) rfl rfl rfl ?_
                  refine WL_is (X_load1 rfl rfl (by exact idx1) rfl rfl) rfl rfl rfl ?_
                  refine WL_is (X_fieldAddr rfl rfl rfl (by simp only [Nat.zero_add] <;> rfl)) rfl rfl rfl ?_
                  refine WL_is (X_load1 rfl rfl (by exact idx4) rfl rfl) rfl rfl rfl ?_
                  refine WL_is (X_andNot rfl rfl rfl) rfl rfl rfl ?_
                  refine WL_is (X_neq_f rfl rfl rfl (by omega)) rfl rfl rfl ?_
                  refine WL_is (X_pick_f rfl rfl rfl) rfl rfl rfl ?_
                  refine WL_is (X_move rfl rfl) rfl rfl rfl ?_
                  refine WL_is (X_fieldAddr rfl rfl rfl (by simp only [Nat.zero_add] <;> rfl)) rfl rfl rfl ?_
                  refine WL_is (X_load1 rfl rfl (by exact idx1) rfl rfl) rfl rfl rfl ?_
                  refine WL_is (X_and rfl rfl rfl) rfl rfl rfl ?_
                  refine WL_is (X_fieldAddr rfl rfl rfl (by simp only [Nat.zero_add] <;> rfl)) rfl rfl rfl ?_
                  refine WL_is (X_load1 rfl rfl (by exact idx4) rfl rfl) rfl rfl rfl ?_
                  refine WL_is (X_and rfl rfl rfl) rfl rfl rfl ?_
                  refine WL_is (X_neq_f rfl rfl rfl (by omega)) rfl rfl rfl ?_
                  refine WL_is (X_pick_f rfl rfl rfl) rfl rfl rfl ?_
                  refine WL_is (X_move rfl rfl) rfl rfl rfl ?_
                  refine WL_is (X_move rfl rfl) rfl rfl rfl ?_
                  refine WL_is (X_geq_t rfl rfl rfl (by omega)) rfl rfl rfl ?_
                  refine WL_is (X_move rfl rfl) rfl rfl rfl ?_
                  refine WL_is (X_fieldAddr rfl rfl rfl (by simp only [Nat.zero_add] <;> rfl)) rfl rfl rfl ?_
                  refine WL_is (X_load1 rfl rfl (by exact idx1) rfl rfl) rfl rfl rfl ?_
                  refine WL_is (X_convW rfl rfl rfl rfl (by exact wrap_i64_in (by omega) (by omega))) rfl rfl rfl ?_
                  refine WL_is (X_move rfl rfl) rfl rfl rfl ?_
                  refine WL_is (X_neq_f rfl rfl rfl (by omega)) rfl rfl rfl ?_
                  refine WL_is (X_pick_t rfl rfl rfl) rfl rfl rfl ?_
                  refine WL_is (X_pick_f rfl rfl rfl) rfl rfl rfl ?_
                  refine WL_is (X_move rfl rfl) rfl rfl rfl ?_
                  refine WL_is (X_move rfl rfl) rfl rfl rfl ?_
                  refine WL_is (X_geq_f rfl rfl rfl (by omega)) rfl rfl rfl ?_
                  refine WL_is (X_move rfl rfl) rfl rfl rfl ?_
                  refine WL_off rfl rfl rfl ?_
                  refine WL_off rfl rfl rfl ?_
                  refine WL_off rfl rfl rfl ?_
                  refine WL_off rfl rfl rfl ?_
                  refine WL_off rfl rfl rfl ?_
                  refine WL_is (X_pick_f rfl rfl rfl) rfl rfl rfl ?_
                  refine WL_is (X_pick_f rfl rfl rfl) rfl rfl rfl ?_
                  refine WL_is (X_move rfl rfl) rfl rfl rfl ?_
                  refine WL_is (X_move rfl rfl) rfl rfl rfl ?_
                  refine WL_is (X_lss_f rfl rfl rfl (by omega)) rfl rfl rfl ?_
                  refine WL_is (X_move rfl rfl) rfl rfl rfl ?_
                  refine WL_off rfl rfl rfl ?_
                  refine WL_off rfl rfl rfl ?_
                  refine WL_off rfl rfl rfl ?_
                  refine WL_off rfl rfl rfl ?_
                  refine WL_off rfl rfl rfl ?_
                  refine WL_is (X_pick_f rfl rfl rfl) rfl rfl rfl ?_
                  refine WL_is (X_pick_f rfl rfl rfl) rfl rfl rfl ?_
                  refine WL_is (X_move rfl rfl) rfl rfl rfl ?_
                  refine WL_is (X_move rfl rfl) rfl rfl rfl ?_
                  refine WL_is (X_lss_t rfl rfl rfl (by omega)) rfl rfl rfl ?_
                  refine WL_is (X_move rfl rfl) rfl rfl rfl ?_
                  refine WL_is (X_fieldAddr rfl rfl rfl (by simp only [Nat.zero_add] <;> rfl)) rfl rfl rfl ?_
                  refine WL_is (X_load1 rfl rfl (by exact idx1) rfl rfl) rfl rfl rfl ?_
                  refine WL_is (X_fieldAddr rfl rfl rfl (by simp only [Nat.zero_add] <;> rfl)) rfl rfl rfl ?_
                  refine WL_is (X_load1 rfl rfl (by exact idx4) rfl rfl) rfl rfl rfl ?_
                  refine WL_is (X_neq_f rfl rfl rfl (by omega)) rfl rfl rfl ?_
                  refine WL_is (X_pick_t rfl rfl rfl) rfl rfl rfl ?_
                  refine WL_is (X_pick_f rfl rfl rfl) rfl rfl rfl ?_
                  (repeat (first | refine WL_nil ?_ | refine Then_normal ?_ | refine W_seq ?_ | refine W_skip ?_ | refine W_false rfl ?_))
                  skip
                  refine W_region rfl ?_
                  refine WL_is (X_fieldAddr rfl rfl rfl (by simp only [Nat.zero_add] <;> rfl)) rfl rfl rfl ?_
                  refine WL_is (X_load1 rfl rfl (by exact idx4) rfl rfl) rfl rfl rfl ?_
                  refine WL_is (X_fieldAddr rfl rfl rfl (by simp only [Nat.zero_add] <;> rfl)) rfl rfl rfl ?_
                  refine WL_store rfl rfl rfl (by exact idx1) rfl rfl rfl rfl rfl rfl rfl rfl rfl ?_
                  (repeat (first | refine WL_nil ?_ | refine Then_normal ?_ | refine W_seq ?_))
                  skip
                  refine W_region rfl ?_
                  refine WL_is (X_fieldAddr rfl rfl rfl (by simp only [Nat.zero_add] <;> rfl)) rfl rfl rfl ?_
                  refine WL_is (X_load1 rfl rfl (by exact idx4) rfl rfl) rfl rfl rfl ?_
                  refine WL_is (X_fieldAddr rfl rfl rfl (by simp only [Nat.zero_add] <;> rfl)) rfl rfl rfl ?_
                  refine WL_store rfl rfl rfl (by exact idx1) rfl rfl rfl rfl rfl rfl rfl rfl rfl ?_
                  (repeat (first | refine WL_nil ?_ | refine Then_normal ?_ | refine W_seq ?_))
                  skip
                  refine W_region rfl ?_
                  refine WL_is (X_fieldAddr rfl rfl rfl (by simp only [Nat.zero_add] <;> rfl)) rfl rfl rfl ?_
                  refine WL_is (X_load1 rfl rfl (by exact idx4) rfl rfl) rfl rfl rfl ?_
                  refine WL_is (X_fieldAddr rfl rfl rfl (by simp only [Nat.zero_add] <;> rfl)) rfl rfl rfl ?_
                  refine WL_store rfl rfl rfl (by exact idx1) rfl rfl rfl rfl rfl rfl rfl rfl rfl ?_
                  (repeat (first | refine WL_nil ?_ | refine Then_normal ?_ | refine W_seq ?_))
                  skip
                  refine W_region rfl ?_
                  refine WL_is (X_loadA rfl rfl (by exact idx1) rfl rfl rfl) rfl rfl rfl ?_
                  refine WL_is (X_loadA rfl rfl (by exact idx4) rfl rfl rfl) rfl rfl rfl ?_
                  refine WL_is (X_callv rfl rfl rfl Try.func18 rfl (by assumption)) rfl rfl rfl ?_
                  refine WL_is (X_not rfl rfl) rfl rfl rfl ?_
                  (repeat (first | refine WL_nil ?_ | refine Then_normal ?_ | refine W_skip ?_ | refine W_false rfl ?_))
                  exact ⟨(), ⟨(by repeat (first | exact SubE_nil | refine SubE_cons rfl ?_)), rfl, SubR.cons _ (SubR.skip _ (SubR.skip _ (SubR.cons _ (SubR.cons _ (SubR.skip _ (SubR.refl _)))))), rfl⟩, trivial⟩
              · rw [if_neg d1] at t5
                by_cases d2 : 0 ≤ gid
                · rw [if_pos d2] at t6
                  skip
                  refine W_region rfl ?_
                  refine WL_is (X_move rfl rfl) rfl rfl rfl ?_
                  refine WL_is (X_eql_t rfl rfl rfl (by omega)) rfl rfl rfl ?_
                  (repeat (first | refine WL_nil ?_ | refine Then_normal ?_ | refine W_seq ?_ | refine W_true rfl ?_))
                  skip
                  refine W_region rfl ?_
                  refine WL_is (X_loadA rfl rfl (by exact idx1) rfl rfl rfl) rfl rfl rfl ?_
                  refine WL_is (X_callv rfl rfl rfl Try.func20 rfl (by assumption)) rfl rfl rfl ?_
                  refine WL_is (X_neq_f rfl rfl rfl (by omega)) rfl rfl rfl ?_
                  refine WL_is (X_move rfl rfl) rfl rfl rfl ?_
                  refine WL_is (X_fieldAddr rfl rfl rfl (by simp only [Nat.zero_add] <;> rfl)) rfl rfl rfl ?_
                  refine WL_is (X_load1 rfl rfl (by exact idx1) rfl rfl) rfl rfl rfl ?_
                  refine WL_is (X_fieldAddr rfl rfl rfl (by simp only [Nat.zero_add] <;> rfl)) rfl rfl rfl ?_
                  refine WL_is (X_load1 rfl rfl (by exact idx4) rfl rfl) rfl rfl rfl ?_
                  refine WL_is (X_andNot rfl rfl rfl) rfl rfl rfl ?_
                  refine WL_is (X_neq_f rfl rfl rfl (by omega)) rfl rfl rfl ?_
                  refine WL_is (X_pick_f rfl rfl rfl) rfl rfl rfl ?_
                  refine WL_is (X_move rfl rfl) rfl rfl rfl ?_
                  refine WL_is (X_fieldAddr rfl rfl rfl (by simp only [Nat.zero_add] <;> rfl)) rfl rfl rfl ?_
                  refine WL_is (X_load1 rfl rfl (by exact idx1) rfl rfl) rfl rfl rfl ?_
                  refine WL_is (X_and rfl rfl rfl) rfl rfl rfl ?_
                  refine WL_is (X_fieldAddr rfl rfl rfl (by simp only [Nat.zero_add] <;> rfl)) rfl rfl rfl ?_
                  refine WL_is (X_load1 rfl rfl (by exact idx4) rfl rfl) rfl rfl rfl ?_
                  refine WL_is (X_and rfl rfl rfl) rfl rfl rfl ?_
                  refine WL_is (X_neq_f rfl rfl rfl (by omega)) rfl rfl rfl ?_
                  refine WL_is (X_pick_f rfl rfl rfl) rfl rfl rfl ?_
                  refine WL_is (X_move rfl rfl) rfl rfl rfl ?_
                  refine WL_is (X_move rfl rfl) rfl rfl rfl ?_
                  refine WL_is (X_geq_f rfl rfl rfl (by omega)) rfl rfl rfl ?_
                  refine WL_is (X_move rfl rfl) rfl rfl rfl ?_
                  refine WL_off rfl rfl rfl ?_
                  refine WL_off rfl rfl rfl ?_
                  refine WL_off rfl rfl rfl ?_
                  refine WL_off rfl rfl rfl ?_
                  refine WL_off rfl rfl rfl ?_
                  refine WL_is (X_pick_f rfl rfl rfl) rfl rfl rfl ?_
                  refine WL_is (X_pick_f rfl rfl rfl) rfl rfl rfl ?_
                  refine WL_is (X_move rfl rfl) rfl rfl rfl ?_
                  refine WL_is (X_move rfl rfl) rfl rfl rfl ?_
                  refine WL_is (X_geq_t rfl rfl rfl (by omega)) rfl rfl rfl ?_
                  refine WL_is (X_move rfl rfl) rfl rfl rfl ?_
                  refine WL_is (X_fieldAddr rfl rfl rfl (by simp only [Nat.zero_add] <;> rfl)) rfl rfl rfl ?_
                  refine WL_is (X_load1 rfl rfl (by exact idx1) rfl rfl) rfl rfl rfl ?_
                  refine WL_is (X_convW rfl rfl rfl rfl (by exact wrap_i64_in (by omega) (by omega))) rfl rfl rfl ?_
                  refine WL_is (X_move rfl rfl) rfl rfl rfl ?_
                  refine WL_is (X_neq_f rfl rfl rfl (by omega)) rfl rfl rfl ?_
                  refine WL_is (X_pick_t rfl rfl rfl) rfl rfl rfl ?_
                  refine WL_is (X_pick_f rfl rfl rfl) rfl rfl rfl ?_
                  refine WL_is (X_move rfl rfl) rfl rfl rfl ?_
                  refine WL_is (X_move rfl rfl) rfl rfl rfl ?_
                  refine WL_is (X_lss_t rfl rfl rfl (by omega)) rfl rfl rfl ?_
                  refine WL_is (X_move rfl rfl) rfl rfl rfl ?_
                  refine WL_is (X_fieldAddr rfl rfl rfl (by simp only [Nat.zero_add] <;> rfl)) rfl rfl rfl ?_
                  refine WL_is (X_load1 rfl rfl (by exact idx1) rfl rfl) rfl rfl rfl ?_
                  refine WL_is (X_fieldAddr rfl rfl rfl (by simp only [Nat.zero_add] <;> rfl)) rfl rfl rfl ?_
                  refine WL_is (X_load1 rfl rfl (by exact idx4) rfl rfl) rfl rfl rfl ?_
                  refine WL_is (X_neq_f rfl rfl rfl (by omega)) rfl rfl rfl ?_
                  refine WL_is (X_pick_t rfl rfl rfl) rfl rfl rfl ?_
                  refine WL_is (X_pick_f rfl rfl rfl) rfl rfl rfl ?_
                  refine WL_is (X_move rfl rfl) rfl rfl rfl ?_
                  refine WL_is (X_move rfl rfl) rfl rfl rfl ?_
                  refine WL_is (X_lss_f rfl rfl rfl (by omega)) rfl rfl rfl ?_
                  refine WL_is (X_move rfl rfl) rfl rfl rfl ?_
                  refine WL_off rfl rfl rfl ?_
                  refine WL_off rfl rfl rfl ?_
                  refine WL_off rfl rfl rfl ?_
                  refine WL_off rfl rfl rfl ?_
                  refine WL_off rfl rfl rfl ?_
                  refine WL_is (X_pick_f rfl rfl rfl) rfl rfl rfl ?_
                  refine WL_is (X_pick_f rfl rfl rfl) rfl rfl rfl ?_
                  (repeat (first | refine WL_nil ?_ | refine Then_normal ?_ | refine W_seq ?_ | refine W_skip ?_ | refine W_false rfl ?_))
                  skip
                  refine W_region rfl ?_
                  refine WL_is (X_fieldAddr rfl rfl rfl (by simp only [Nat.zero_add] <;> rfl)) rfl rfl rfl ?_
                  refine WL_is (X_load1 rfl rfl (by exact idx4) rfl rfl) rfl rfl rfl ?_
                  refine WL_is (X_fieldAddr rfl rfl rfl (by simp only [Nat.zero_add] <;> rfl)) rfl rfl rfl ?_
                  refine WL_store rfl rfl rfl (by exact idx1) rfl rfl rfl rfl rfl rfl rfl rfl rfl ?_
                  (repeat (first | refine WL_nil ?_ | refine Then_normal ?_ | refine W_seq ?_))
                  skip
                  refine W_region rfl ?_
                  refine WL_is (X_fieldAddr rfl rfl rfl (by simp only [Nat.zero_add] <;> rfl)) rfl rfl rfl ?_
                  refine WL_is (X_load1 rfl rfl (by exact idx4) rfl rfl) rfl rfl rfl ?_
                  refine WL_is (X_fieldAddr rfl rfl rfl (by simp only [Nat.zero_add] <;> rfl)) rfl rfl rfl ?_
                  refine WL_store rfl rfl rfl (by exact idx1) rfl rfl rfl rfl rfl rfl rfl rfl rfl ?_
                  (repeat (first | refine WL_nil ?_ | refine Then_normal ?_ | refine W_seq ?_))
                  skip
                  refine W_region rfl ?_
                  refine WL_is (X_fieldAddr rfl rfl rfl (by simp only [Nat.zero_add] <;> rfl)) rfl rfl rfl ?_
                  refine WL_is (X_load1 rfl rfl (by exact idx4) rfl rfl) rfl rfl rfl ?_
                  refine WL_is (X_fieldAddr rfl rfl rfl (by simp only [Nat.zero_add] <;> rfl)) rfl rfl rfl ?_
                  refine WL_store rfl rfl rfl (by exact idx1) rfl rfl rfl rfl rfl rfl rfl rfl rfl ?_
                  (repeat (first | refine WL_nil ?_ | refine Then_normal ?_ | refine W_seq ?_))
                  skip
                  refine W_region rfl ?_
                  refine WL_is (X_loadA rfl rfl (by exact idx1) rfl rfl rfl) rfl rfl rfl ?_
                  refine WL_is (X_loadA rfl rfl (by exact idx4) rfl rfl rfl) rfl rfl rfl ?_
                  refine WL_is (X_callv rfl rfl rfl Try.func18 rfl (by assumption)) rfl rfl rfl ?_
                  refine WL_is (X_not rfl rfl) rfl rfl rfl ?_
                  (repeat (first | refine WL_nil ?_ | refine Then_normal ?_ | refine W_skip ?_ | refine W_false rfl ?_))
                  exact ⟨(), ⟨(by repeat (first | exact SubE_nil | refine SubE_cons rfl ?_)), rfl, SubR.cons _ (SubR.skip _ (SubR.skip _ (SubR.cons _ (SubR.cons _ (SubR.skip _ (SubR.refl _)))))), rfl⟩, trivial⟩
                · rw [if_neg d2] at t6
                  skip
                  refine W_region rfl ?_
                  refine WL_is (X_move rfl rfl) rfl rfl rfl ?_
                  refine WL_is (X_eql_t rfl rfl rfl (by omega)) rfl rfl rfl ?_
                  (repeat (first | refine WL_nil ?_ | refine Then_normal ?_ | refine W_seq ?_ | refine W_true rfl ?_))
                  skip
                  refine W_region rfl ?_
                  refine WL_is (X_loadA rfl rfl (by exact idx1) rfl rfl rfl) rfl rfl rfl ?_
                  refine WL_is (X_callv rfl rfl rfl Try.func20 rfl (by assumption)) rfl rfl rfl ?_
                  refine WL_is (X_neq_f rfl rfl rfl (by omega)) rfl rfl rfl ?_
                  refine WL_is (X_move rfl rfl) rfl rfl rfl ?_
                  refine WL_is (X_fieldAddr rfl rfl rfl (by simp only [Nat.zero_add] <;> rfl)) rfl rfl rfl ?_
                  refine WL_is (X_load1 rfl rfl (by exact idx1) rfl rfl) rfl rfl rfl ?_
                  refine WL_is (X_fieldAddr rfl rfl rfl (by simp only [Nat.zero_add] <;> rfl)) rfl rfl rfl ?_
                  refine WL_is (X_load1 rfl rfl (by exact idx4) rfl rfl) rfl rfl rfl ?_
                  refine WL_is (X_andNot rfl rfl rfl) rfl rfl rfl ?_
                  refine WL_is (X_neq_f rfl rfl rfl (by omega)) rfl rfl rfl ?_
                  refine WL_is (X_pick_f rfl rfl rfl) rfl rfl rfl ?_
                  refine WL_is (X_move rfl rfl) rfl rfl rfl ?_
                  refine WL_is (X_fieldAddr rfl rfl rfl (by simp only [Nat.zero_add] <;> rfl)) rfl rfl rfl ?_
                  refine WL_is (X_load1 rfl rfl (by exact idx1) rfl rfl) rfl rfl rfl ?_
                  refine WL_is (X_and rfl rfl rfl) rfl rfl rfl ?_
                  refine WL_is (X_fieldAddr rfl rfl rfl (by simp only [Nat.zero_add] <;> rfl)) rfl rfl rfl ?_
                  refine WL_is (X_load1 rfl rfl (by exact idx4) rfl rfl) rfl rfl rfl ?_
                  refine WL_is (X_and rfl rfl rfl) rfl rfl rfl ?_
                  refine WL_is (X_neq_f rfl rfl rfl (by omega)) rfl rfl rfl ?_
                  refine WL_is (X_pick_f rfl rfl rfl) rfl rfl rfl ?_
                  refine WL_is (X_move rfl rfl) rfl rfl rfl ?_
                  refine WL_is (X_move rfl rfl) rfl rfl rfl ?_
                  refine WL_is (X_geq_f rfl rfl rfl (by omega)) rfl rfl rfl ?_
                  refine WL_is (X_move rfl rfl) rfl rfl rfl ?_
                  refine WL_off rfl rfl rfl ?_
                  refine WL_off rfl rfl rfl ?_
                  refine WL_off rfl rfl rfl ?_
                  refine WL_off rfl rfl rfl ?_
                  refine WL_off rfl rfl rfl ?_
                  refine WL_is (X_pick_f rfl rfl rfl) rfl rfl rfl ?_
                  refine WL_is (X_pick_f rfl rfl rfl) rfl rfl rfl ?_
                  refine WL_is (X_move rfl rfl) rfl rfl rfl ?_
                  refine WL_is (X_move rfl rfl) rfl rfl rfl ?_
                  refine WL_is (X_geq_f rfl rfl rfl (by omega)) rfl rfl rfl ?_
                  refine WL_is (X_move rfl rfl) rfl rfl rfl ?_
                  refine WL_off rfl rfl rfl ?_
                  refine WL_off rfl rfl rfl ?_
                  refine WL_off rfl rfl rfl ?_
                  refine WL_off rfl rfl rfl ?_
                  refine WL_off rfl rfl rfl ?_
                  refine WL_is (X_pick_f rfl rfl rfl) rfl rfl rfl ?_
                  refine WL_is (X_pick_f rfl rfl rfl) rfl rfl rfl ?_
                  refine WL_is (X_move rfl rfl) rfl rfl rfl ?_
                  refine WL_is (X_move rfl rfl) rfl rfl rfl ?_
                  refine WL_is (X_lss_t rfl rfl rfl (by omega)) rfl rfl rfl ?_
                  refine WL_is (X_move rfl rfl) rfl rfl rfl ?_
                  refine WL_is (X_fieldAddr rfl rfl rfl (by simp only [Nat.zero_add] <;> rfl)) rfl rfl rfl ?_
                  refine WL_is (X_load1 rfl rfl (by exact idx1) rfl rfl) rfl rfl rfl ?_
                  refine WL_is (X_fieldAddr rfl rfl rfl (by simp only [Nat.zero_add] <;> rfl)) rfl rfl rfl ?_
                  refine WL_is (X_load1 rfl rfl (by exact idx4) rfl rfl) rfl rfl rfl ?_
                  refine WL_is (X_neq_f rfl rfl rfl (by omega)) rfl rfl rfl ?_
                  refine WL_is (X_pick_t rfl rfl rfl) rfl rfl rfl ?_
                  refine WL_is (X_pick_f rfl rfl rfl) rfl rfl rfl ?_
                  refine WL_is (X_move rfl rfl) rfl rfl rfl ?_
                  refine WL_is (X_move rfl rfl) rfl rfl rfl ?_
                  refine WL_is (X_lss_t rfl rfl rfl (by omega)) rfl rfl rfl ?_
                  refine WL_is (X_move rfl rfl) rfl rfl rfl ?_
                  refine WL_is (X_fieldAddr rfl rfl rfl (by simp only [Nat.zero_add] <;> rfl)) rfl rfl rfl ?_
                  refine WL_is (X_load1 rfl rfl (by exact idx1) rfl rfl) rfl rfl rfl ?_
                  refine WL_is (X_fieldAddr rfl rfl rfl (by simp only [Nat.zero_add] <;> rfl)) rfl rfl rfl ?_
                  refine WL_is (X_load1 rfl rfl (by exact idx4) rfl rfl) rfl rfl rfl ?_
                  refine WL_is (X_neq_f rfl rfl rfl (by omega)) rfl rfl rfl ?_
                  refine WL_is (X_pick_t rfl rfl rfl) rfl rfl rfl ?_
                  refine WL_is (X_pick_f rfl rfl rfl) rfl rfl rfl ?_
                  (repeat (first | refine WL_nil ?_ | refine Then_normal ?_ | refine W_seq ?_ | refine W_skip ?_ | refine W_false rfl ?_))
                  skip
                  refine W_region rfl ?_
                  refine WL_is (X_fieldAddr rfl rfl rfl (by simp only [Nat.zero_add] <;> rfl)) rfl rfl rfl ?_
                  refine WL_is (X_load1 rfl rfl (by exact idx4) rfl rfl) rfl rfl rfl ?_
                  refine WL_is (X_fieldAddr rfl rfl rfl (by simp only [Nat.zero_add] <;> rfl)) rfl rfl rfl ?_
                  refine WL_store rfl rfl rfl (by exact idx1) rfl rfl rfl rfl rfl rfl rfl rfl rfl ?_
                  (repeat (first | refine WL_nil ?_ | refine Then_normal ?_ | refine W_seq ?_))
                  skip
                  refine W_region rfl ?_
                  refine WL_is (X_fieldAddr rfl rfl rfl (by simp only [Nat.zero_add] <;> rfl)) rfl rfl rfl ?_
                  refine WL_is (X_load1 rfl rfl (by exact idx4) rfl rfl) rfl rfl rfl ?_
                  refine WL_is (X_fieldAddr rfl rfl rfl (by simp only [Nat.zero_add] <;> rfl)) rfl rfl rfl ?_
                  refine WL_store rfl rfl rfl (by exact idx1) rfl rfl rfl rfl rfl rfl rfl rfl rfl ?_
                  (repeat (first | refine WL_nil ?_ | refine Then_normal ?_ | refine W_seq ?_))
                  skip
                  refine W_region rfl ?_
                  refine WL_is (X_fieldAddr rfl rfl rfl (by simp only [Nat.zero_add] <;> rfl)) rfl rfl rfl ?_
                  refine WL_is (X_load1 rfl rfl (by exact idx4) rfl rfl) rfl rfl rfl ?_
                  refine WL_is (X_fieldAddr rfl rfl rfl (by simp only [Nat.zero_add] <;> rfl)) rfl rfl rfl ?_
                  refine WL_store rfl rfl rfl (by exact idx1) rfl rfl rfl rfl rfl rfl rfl rfl rfl ?_
                  (repeat (first | refine WL_nil ?_ | refine Then_normal ?_ | refine W_seq ?_))
                  skip
                  refine W_region rfl ?_
                  refine WL_is (X_loadA rfl rfl (by exact idx1) rfl rfl rfl) rfl rfl rfl ?_
                  refine WL_is (X_loadA rfl rfl (by exact idx4) rfl rfl rfl) rfl rfl rfl ?_
                  refine WL_is (X_callv rfl rfl rfl Try.func18 rfl (by assumption)) rfl rfl rfl ?_
                  refine WL_is (X_not rfl rfl) rfl rfl rfl ?_
                  (repeat (first | refine WL_nil ?_ | refine Then_normal ?_ | refine W_skip ?_ | refine W_false rfl ?_))
                  exact ⟨(), ⟨(by repeat (first | exact SubE_nil | refine SubE_cons rfl ?_)), rfl, SubR.cons _ (SubR.skip _ (SubR.skip _ (SubR.cons _ (SubR.cons _ (SubR.skip _ (SubR.refl _)))))), rfl⟩, trivial⟩
            · skip
              refine W_region rfl ?_
              refine WL_is (X_move rfl rfl) rfl rfl rfl ?_
              refine WL_is (X_eql_f rfl rfl rfl (by omega)) rfl rfl rfl ?_
              (repeat (first | refine WL_nil ?_ | refine Then_normal ?_ | refine W_skip ?_ | refine W_false rfl ?_))
              exact ⟨(), ⟨(by repeat (first | exact SubE_nil | refine SubE_cons rfl ?_)), rfl, SubR.cons _ (SubR.skip _ (SubR.skip _ (SubR.cons _ (SubR.cons _ (SubR.skip _ (SubR.refl _)))))), rfl⟩, trivial⟩
          · rintro _ -
            have al6 := alive_fn H6
            have hv7 := hv6.mono L6
            obtain ⟨A1, A2, A3, A4, A5⟩ := hv7.parts
            obtain ⟨Z1, Z2, Z3, Z4, Z5⟩ := hz6.parts
            have hl6 := hl2.mono (L35.trans L6)
            by_cases hg : zf = 0
            · obtain ⟨⟨b1, b2⟩, b3, b4, b5⟩ := hsz hg
              rcases (by omega : which = 1 ∨ which = 2 ∨ which = 3) with rfl | rfl | rfl
              · have hlm : l.may = true := by
                  rcases b4 with e | e
                  · exact absurd e (by decide)
                  · exact e
                rw [if_pos rfl] at b5
                obtain ⟨v1, v2, v3, v4⟩ := lose_facts (c := c) (a := a.acl1 l) (k := kind) hb7 (acl1_may ham hlm)
                rw [← b5] at v1 v2 v3 v4
                have v3 : bits .and .u8 Z.bits 5 = bits .and .u8 a.bits 5 := v3
                have v4 : bits .andNot .u8 Z.bits a.bits = 0 := v4
                have hZa : Z.acc = l := by rw [b5]; rfl
                have hZo : Z.uid = a.uid ∧ Z.gid = a.gid ∧ Z.df = a.df := by rw [b5]; exact ⟨rfl, rfl, rfl⟩
                have zok : Z.Ok := ⟨v2, by rw [hZo.1]; exact hok.uid, by rw [hZo.2.1]; exact hok.gid, by rw [hZa]; exact hlo, by rw [hZo.2.2]; exact hok.df⟩
                have hw : ({ Z.wb a.bits with acc := a.acc } : Attr) = a := by rw [b5]; rfl
                have k8 := attrCheck_fn H6 _ _ hz6 zsm zok
                rw [v1, if_pos rfl] at k8
                have k9 := same_acl_ref H6 Z.acc l _ _ ⟨_, _, rfl, Z1, Z2⟩ hl6 zsm.acc hls
                rw [decide_eq_true hZa] at k9
                have hB2 : AttrV H6 (attrV ({ Z.wb a.bits with acc := a.acc } : Attr) _ _ _ _ _) ({ Z.wb a.bits with acc := a.acc } : Attr) := ⟨_, _, _, _, _, rfl, A1, A2, Z3, Z4, Z5⟩
                have k10 := attrSame_ref H6 _ a _ _ hB2 hv7 (by rw [hw]; exact hs) hs
                rw [decide_eq_true hw] at k10
                unfold attrS attrV at k8 k10
                unfold aclV at k9
                dsimp only [Attr.wb] at k10
                (repeat (first | refine W_seq ?_))
                refine W_region rfl ?_
                refine WL_is (X_move rfl rfl) rfl rfl rfl ?_
                refine WL_is (X_neq_f rfl rfl rfl (by omega)) rfl rfl rfl ?_
                (repeat (first | refine WL_nil ?_ | refine Then_normal ?_ | refine W_seq ?_ | refine W_skip ?_ | refine W_false rfl ?_))
                skip
                refine W_region rfl ?_
                refine WL_is (X_loadA rfl rfl (by exact idx0) rfl rfl rfl) rfl rfl rfl ?_
                refine WL_is (X_callv rfl rfl rfl Try.func20 rfl (by assumption)) rfl rfl rfl ?_
                refine WL_is (X_neq_f rfl rfl rfl (by omega)) rfl rfl rfl ?_
                refine WL_is (X_move rfl rfl) rfl rfl rfl ?_
                refine WL_is (X_fieldAddr rfl rfl rfl (by simp only [Nat.zero_add] <;> rfl)) rfl rfl rfl ?_
                refine WL_is (X_load1 rfl rfl (by exact idx0) rfl rfl) rfl rfl rfl ?_
                refine WL_is (X_fieldAddr rfl rfl rfl (by simp only [Nat.zero_add] <;> rfl)) rfl rfl rfl ?_
                refine WL_is (X_load1 rfl rfl (by exact idx2) rfl rfl) rfl rfl rfl ?_
                refine WL_is (X_andNot rfl rfl rfl) rfl rfl rfl ?_
                refine WL_is (X_neq_f rfl rfl rfl (by omega)) rfl rfl rfl ?_
                refine WL_is (X_pick_f rfl rfl rfl) rfl rfl rfl ?_
                (repeat (first | refine WL_nil ?_ | refine Then_normal ?_ | refine W_seq ?_ | refine W_skip ?_ | refine W_false rfl ?_))
                skip
                refine W_region rfl ?_
                refine WL_is (X_move rfl rfl) rfl rfl rfl ?_
                refine WL_is (X_eql_t rfl rfl rfl (by omega)) rfl rfl rfl ?_
                (repeat (first | refine WL_nil ?_ | refine Then_normal ?_ | refine W_seq ?_ | refine W_true rfl ?_))
                skip
                refine W_region rfl ?_
                refine WL_is (X_fieldAddr rfl rfl rfl (by simp only [Nat.zero_add] <;> rfl)) rfl rfl rfl ?_
                refine WL_is (X_loadA rfl rfl (by exact idx0) rfl rfl rfl) rfl rfl rfl ?_
                refine WL_is (X_loadA rfl rfl (by exact idx1) rfl rfl rfl) rfl rfl rfl ?_
                refine WL_is (X_callv rfl rfl rfl Try.func19 rfl (by assumption)) rfl rfl rfl ?_
                refine WL_is (X_not rfl rfl) rfl rfl rfl ?_
                refine WL_is (X_move rfl rfl) rfl rfl rfl ?_
                refine WL_is (X_fieldAddr rfl rfl rfl (by simp only [Nat.zero_add] <;> rfl)) rfl rfl rfl ?_
                refine WL_is (X_load1 rfl rfl (by exact idx0) rfl rfl) rfl rfl rfl ?_
                refine WL_is (X_and rfl rfl rfl) rfl rfl rfl ?_
                refine WL_is (X_fieldAddr rfl rfl rfl (by simp only [Nat.zero_add] <;> rfl)) rfl rfl rfl ?_
                refine WL_is (X_load1 rfl rfl (by exact idx2) rfl rfl) rfl rfl rfl ?_
                refine WL_is (X_and rfl rfl rfl) rfl rfl rfl ?_
                refine WL_is (X_neq_f rfl rfl rfl (by omega)) rfl rfl rfl ?_
                refine WL_is (X_pick_f rfl rfl rfl) rfl rfl rfl ?_
                (repeat (first | refine WL_nil ?_ | refine Then_normal ?_ | refine W_seq ?_ | refine W_skip ?_ | refine W_false rfl ?_))
                skip
                refine W_region rfl ?_
                refine WL_is (X_fieldAddr rfl rfl rfl (by simp only [Nat.zero_add] <;> rfl)) rfl rfl rfl ?_
                refine WL_is (X_loadA rfl rfl (by exact idx2) rfl rfl rfl) rfl rfl rfl ?_
                refine WL_is (X_fieldAddr rfl rfl rfl (by simp only [Nat.zero_add] <;> rfl)) rfl rfl rfl ?_
                refine WL_store rfl rfl rfl (by exact idx0) rfl rfl rfl rfl rfl rfl rfl rfl rfl ?_
                (repeat (first | refine WL_nil ?_ | refine Then_normal ?_))
                skip
                refine W_region rfl ?_
                refine WL_is (X_fieldAddr rfl rfl rfl (by simp only [Nat.zero_add] <;> rfl)) rfl rfl rfl ?_
                refine WL_is (X_load1 rfl rfl (by exact idx2) rfl rfl) rfl rfl rfl ?_
                refine WL_is (X_fieldAddr rfl rfl rfl (by simp only [Nat.zero_add] <;> rfl)) rfl rfl rfl ?_
                refine WL_store rfl rfl rfl (by exact idx0) rfl rfl rfl rfl rfl rfl rfl rfl rfl ?_
                (repeat (first | refine WL_nil ?_ | refine Then_normal ?_ | refine W_seq ?_))
                skip
                refine W_region rfl ?_
                refine WL_is (X_loadA rfl rfl (by exact idx0) rfl rfl rfl) rfl rfl rfl ?_
                refine WL_is (X_loadA rfl rfl (by exact idx2) rfl rfl rfl) rfl rfl rfl ?_
                refine WL_is (X_callv rfl rfl rfl Try.func18 rfl (by assumption)) rfl rfl rfl ?_
                refine WL_is (X_move rfl rfl) rfl rfl rfl ?_
                refine WL_is (X_callv rfl rfl rfl Try.func10 rfl (by assumption)) rfl rfl rfl ?_
                refine WL_is (X_pick_t rfl rfl rfl) rfl rfl rfl ?_
                refine WL_is (X_assign rfl rfl) rfl rfl rfl ?_
                (repeat (first | refine WL_nil ?_ | refine Then_normal ?_ | refine W_ret ?_))
                refine Body_end rfl rfl rfl (SubR.none _) ?_
                rfl
              · have hlm : l.may = true := by
                  rcases b4 with e | e
                  · exact absurd e (by decide)
                  · exact e
                have hk2 : kind = 2 := by
                  rcases b3 with e | e
                  · exact absurd e (by decide)
                  · exact e
                rw [if_neg (by decide), if_pos rfl] at b5
                obtain ⟨-, -, -, v4⟩ := lose_bits hb7
                have hZb : Z.bits = a.bits := by rw [b5]; rfl
                rw [← hZb] at v4
                have v5 : bits .andNot .u8 Z.bits a.bits = 0 := by rw [hZb] at v4 ⊢; exact v4
                have hZm : Z.may = true := by rw [b5]; exact acl2_may ham hlm
                have hZh : Z.hd = true := by rw [b5]; rfl
                have hZd : Z.df = l := by rw [b5]; rfl
                have hZo : Z.uid = a.uid ∧ Z.gid = a.gid ∧ Z.acc = a.acc := by rw [b5]; exact ⟨rfl, rfl, rfl⟩
                have zok : Z.Ok := ⟨by rw [hZb]; exact hok.bits, by rw [hZo.1]; exact hok.uid, by rw [hZo.2.1]; exact hok.gid, by rw [hZo.2.2]; exact hok.acc, by rw [hZd]; exact hlo⟩
                have hw : ({ Z with hd := a.hd, df := a.df } : Attr) = a := by rw [b5]; rfl
                have k8 := attrCheck_fn H6 _ _ hz6 zsm zok
                rw [hZm, if_pos rfl] at k8
                have k9 := same_acl_ref H6 Z.df l _ _ ⟨_, _, rfl, Z3, Z4⟩ hl6 zsm.df hls
                rw [decide_eq_true hZd] at k9
                have hB2 : AttrV H6 (attrV ({ Z with hd := a.hd, df := a.df } : Attr) _ _ _ _ _) ({ Z with hd := a.hd, df := a.df } : Attr) := ⟨_, _, _, _, _, rfl, Z1, Z2, A3, A4, Z5⟩
                have k10 := attrSame_ref H6 _ a _ _ hB2 hv7 (by rw [hw]; exact hs) hs
                rw [decide_eq_true hw] at k10
                unfold attrS attrV at k8 k10
                unfold aclV at k9
                dsimp only at k10
                unfold attrC
                rw [hZh] at k8 ⊢
                (repeat (first | refine W_seq ?_))
                refine W_region rfl ?_
                refine WL_is (X_move rfl rfl) rfl rfl rfl ?_
                refine WL_is (X_neq_f rfl rfl rfl (by omega)) rfl rfl rfl ?_
                (repeat (first | refine WL_nil ?_ | refine Then_normal ?_ | refine W_seq ?_ | refine W_skip ?_ | refine W_false rfl ?_))
                skip
                refine W_region rfl ?_
                refine WL_is (X_loadA rfl rfl (by exact idx0) rfl rfl rfl) rfl rfl rfl ?_
                refine WL_is (X_callv rfl rfl rfl Try.func20 rfl (by assumption)) rfl rfl rfl ?_
                refine WL_is (X_neq_f rfl rfl rfl (by omega)) rfl rfl rfl ?_
                refine WL_is (X_move rfl rfl) rfl rfl rfl ?_
                refine WL_is (X_fieldAddr rfl rfl rfl (by simp only [Nat.zero_add] <;> rfl)) rfl rfl rfl ?_
                refine WL_is (X_load1 rfl rfl (by exact idx0) rfl rfl) rfl rfl rfl ?_
                refine WL_is (X_fieldAddr rfl rfl rfl (by simp only [Nat.zero_add] <;> rfl)) rfl rfl rfl ?_
                refine WL_is (X_load1 rfl rfl (by exact idx2) rfl rfl) rfl rfl rfl ?_
                refine WL_is (X_andNot rfl rfl rfl) rfl rfl rfl ?_
                refine WL_is (X_neq_f rfl rfl rfl (by omega)) rfl rfl rfl ?_
                refine WL_is (X_pick_f rfl rfl rfl) rfl rfl rfl ?_
                (repeat (first | refine WL_nil ?_ | refine Then_normal ?_ | refine W_seq ?_ | refine W_skip ?_ | refine W_false rfl ?_))
                skip
                refine W_region rfl ?_
                refine WL_is (X_move rfl rfl) rfl rfl rfl ?_
                refine WL_is (X_eql_f rfl rfl rfl (by omega)) rfl rfl rfl ?_
                (repeat (first | refine WL_nil ?_ | refine Then_normal ?_ | refine W_seq ?_ | refine W_false rfl ?_))
                skip
                refine W_region rfl ?_
                refine WL_is (X_move rfl rfl) rfl rfl rfl ?_
                refine WL_is (X_neq_f rfl rfl rfl (by omega)) rfl rfl rfl ?_
                refine WL_is (X_move rfl rfl) rfl rfl rfl ?_
                refine WL_is (X_fieldAddr rfl rfl rfl (by simp only [Nat.zero_add] <;> rfl)) rfl rfl rfl ?_
                refine WL_is (X_load1 rfl rfl (by exact idx0) rfl rfl) rfl rfl rfl ?_
                refine WL_is (X_move rfl rfl) rfl rfl rfl ?_
                refine WL_is (X_eql_t rfl rfl rfl (by omega)) rfl rfl rfl ?_
                refine WL_is (X_neB rfl rfl rfl rfl) rfl rfl rfl ?_
                refine WL_is (X_pick_f rfl rfl rfl) rfl rfl rfl ?_
                refine WL_is (X_move rfl rfl) rfl rfl rfl ?_
                refine WL_is (X_fieldAddr rfl rfl rfl (by simp only [Nat.zero_add] <;> rfl)) rfl rfl rfl ?_
                refine WL_is (X_load1 rfl rfl (by exact idx0) rfl rfl) rfl rfl rfl ?_
                refine WL_is (X_move rfl rfl) rfl rfl rfl ?_
                refine WL_is (X_fieldAddr rfl rfl rfl (by simp only [Nat.zero_add] <;> rfl)) rfl rfl rfl ?_
                refine WL_is (X_loadA rfl rfl (by exact idx0) rfl rfl rfl) rfl rfl rfl ?_
                refine WL_is (X_loadA rfl rfl (by exact idx1) rfl rfl rfl) rfl rfl rfl ?_
                refine WL_is (X_callv rfl rfl rfl Try.func19 rfl (by assumption)) rfl rfl rfl ?_
                refine WL_is (X_not rfl rfl) rfl rfl rfl ?_
                refine WL_is (X_pick_t rfl rfl rfl) rfl rfl rfl ?_
                refine WL_is (X_pick_f rfl rfl rfl) rfl rfl rfl ?_
                (repeat (first | refine WL_nil ?_ | refine Then_normal ?_ | refine W_seq ?_ | refine W_skip ?_ | refine W_false rfl ?_))
                skip
                refine W_region rfl ?_
                refine WL_is (X_fieldAddr rfl rfl rfl (by simp only [Nat.zero_add] <;> rfl)) rfl rfl rfl ?_
                refine WL_is (X_load1 rfl rfl (by exact idx2) rfl rfl) rfl rfl rfl ?_
                refine WL_is (X_fieldAddr rfl rfl rfl (by simp only [Nat.zero_add] <;> rfl)) rfl rfl rfl ?_
                refine WL_store rfl rfl rfl (by exact idx0) rfl rfl rfl rfl rfl rfl rfl rfl rfl ?_
                (repeat (first | refine WL_nil ?_ | refine Then_normal ?_))
                skip
                refine W_region rfl ?_
                refine WL_is (X_fieldAddr rfl rfl rfl (by simp only [Nat.zero_add] <;> rfl)) rfl rfl rfl ?_
                refine WL_is (X_loadA rfl rfl (by exact idx2) rfl rfl rfl) rfl rfl rfl ?_
                refine WL_is (X_fieldAddr rfl rfl rfl (by simp only [Nat.zero_add] <;> rfl)) rfl rfl rfl ?_
                refine WL_store rfl rfl rfl (by exact idx0) rfl rfl rfl rfl rfl rfl rfl rfl rfl ?_
                (repeat (first | refine WL_nil ?_ | refine Then_normal ?_ | refine W_seq ?_))
                skip
                refine W_region rfl ?_
                refine WL_is (X_loadA rfl rfl (by exact idx0) rfl rfl rfl) rfl rfl rfl ?_
                refine WL_is (X_loadA rfl rfl (by exact idx2) rfl rfl rfl) rfl rfl rfl ?_
                refine WL_is (X_callv rfl rfl rfl Try.func18 rfl (by assumption)) rfl rfl rfl ?_
                refine WL_is (X_move rfl rfl) rfl rfl rfl ?_
                refine WL_is (X_callv rfl rfl rfl Try.func10 rfl (by assumption)) rfl rfl rfl ?_
                refine WL_is (X_pick_t rfl rfl rfl) rfl rfl rfl ?_
                refine WL_is (X_assign rfl rfl) rfl rfl rfl ?_
                (repeat (first | refine WL_nil ?_ | refine Then_normal ?_ | refine W_ret ?_))
                refine Body_end rfl rfl rfl (SubR.none _) ?_
                rfl
              · have hk2 : kind = 2 := by
                  rcases b3 with e | e
                  · exact absurd e (by decide)
                  · exact e
                rw [if_neg (by decide), if_neg (by decide)] at b5
                obtain ⟨-, -, -, v4⟩ := lose_bits hb7
                have hZb : Z.bits = a.bits := by rw [b5]; rfl
                have v5 : bits .andNot .u8 Z.bits a.bits = 0 := by rw [hZb]; exact v4
                have hZm : Z.may = true := by rw [b5]; exact acl3_may ham
                have hZh : Z.hd = false := by rw [b5]; rfl
                have hZd : Z.df = acl0 := by rw [b5]; rfl
                have hZo : Z.uid = a.uid ∧ Z.gid = a.gid ∧ Z.acc = a.acc := by rw [b5]; exact ⟨rfl, rfl, rfl⟩
                have zok : Z.Ok := ⟨by rw [hZb]; exact hok.bits, by rw [hZo.1]; exact hok.uid, by rw [hZo.2.1]; exact hok.gid, by rw [hZo.2.2]; exact hok.acc, by rw [hZd]; exact acl0_ok⟩
                have hw : ({ Z with hd := a.hd, df := a.df } : Attr) = a := by rw [b5]; rfl
                have k8 := attrCheck_fn H6 _ _ hz6 zsm zok
                rw [hZm, if_pos rfl] at k8
                have hB2 : AttrV H6 (attrV ({ Z with hd := a.hd, df := a.df } : Attr) _ _ _ _ _) ({ Z with hd := a.hd, df := a.df } : Attr) := ⟨_, _, _, _, _, rfl, Z1, Z2, A3, A4, Z5⟩
                have k10 := attrSame_ref H6 _ a _ _ hB2 hv7 (by rw [hw]; exact hs) hs
                rw [decide_eq_true hw] at k10
                unfold attrS attrV at k8 k10
                dsimp only at k10
                unfold attrC
                rw [hZh] at k8 ⊢
                (repeat (first | refine W_seq ?_))
                refine W_region rfl ?_
                refine WL_is (X_move rfl rfl) rfl rfl rfl ?_
                refine WL_is (X_neq_f rfl rfl rfl (by omega)) rfl rfl rfl ?_
                (repeat (first | refine WL_nil ?_ | refine Then_normal ?_ | refine W_seq ?_ | refine W_skip ?_ | refine W_false rfl ?_))
                skip
                refine W_region rfl ?_
                refine WL_is (X_loadA rfl rfl (by exact idx0) rfl rfl rfl) rfl rfl rfl ?_
                refine WL_is (X_callv rfl rfl rfl Try.func20 rfl (by assumption)) rfl rfl rfl ?_
                refine WL_is (X_neq_f rfl rfl rfl (by omega)) rfl rfl rfl ?_
                refine WL_is (X_move rfl rfl) rfl rfl rfl ?_
                refine WL_is (X_fieldAddr rfl rfl rfl (by simp only [Nat.zero_add] <;> rfl)) rfl rfl rfl ?_
                refine WL_is (X_load1 rfl rfl (by exact idx0) rfl rfl) rfl rfl rfl ?_
                refine WL_is (X_fieldAddr rfl rfl rfl (by simp only [Nat.zero_add] <;> rfl)) rfl rfl rfl ?_
                refine WL_is (X_load1 rfl rfl (by exact idx2) rfl rfl) rfl rfl rfl ?_
                refine WL_is (X_andNot rfl rfl rfl) rfl rfl rfl ?_
                refine WL_is (X_neq_f rfl rfl rfl (by omega)) rfl rfl rfl ?_
                refine WL_is (X_pick_f rfl rfl rfl) rfl rfl rfl ?_
                (repeat (first | refine WL_nil ?_ | refine Then_normal ?_ | refine W_seq ?_ | refine W_skip ?_ | refine W_false rfl ?_))
                skip
                refine W_region rfl ?_
                refine WL_is (X_move rfl rfl) rfl rfl rfl ?_
                refine WL_is (X_eql_f rfl rfl rfl (by omega)) rfl rfl rfl ?_
                (repeat (first | refine WL_nil ?_ | refine Then_normal ?_ | refine W_seq ?_ | refine W_false rfl ?_))
                skip
                refine W_region rfl ?_
                refine WL_is (X_move rfl rfl) rfl rfl rfl ?_
                refine WL_is (X_neq_f rfl rfl rfl (by omega)) rfl rfl rfl ?_
                refine WL_is (X_move rfl rfl) rfl rfl rfl ?_
                refine WL_is (X_fieldAddr rfl rfl rfl (by simp only [Nat.zero_add] <;> rfl)) rfl rfl rfl ?_
                refine WL_is (X_load1 rfl rfl (by exact idx0) rfl rfl) rfl rfl rfl ?_
                refine WL_is (X_move rfl rfl) rfl rfl rfl ?_
                refine WL_is (X_eql_f rfl rfl rfl (by omega)) rfl rfl rfl ?_
                refine WL_is (X_neB rfl rfl rfl rfl) rfl rfl rfl ?_
                refine WL_is (X_pick_f rfl rfl rfl) rfl rfl rfl ?_
                refine WL_is (X_move rfl rfl) rfl rfl rfl ?_
                refine WL_is (X_fieldAddr rfl rfl rfl (by simp only [Nat.zero_add] <;> rfl)) rfl rfl rfl ?_
                refine WL_is (X_load1 rfl rfl (by exact idx0) rfl rfl) rfl rfl rfl ?_
                refine WL_is (X_move rfl rfl) rfl rfl rfl ?_
                refine WL_off rfl rfl rfl ?_
                refine WL_off rfl rfl rfl ?_
                refine WL_off rfl rfl rfl ?_
                refine WL_off rfl rfl rfl ?_
                refine WL_off rfl rfl rfl ?_
                refine WL_is (X_pick_f rfl rfl rfl) rfl rfl rfl ?_
                refine WL_is (X_pick_f rfl rfl rfl) rfl rfl rfl ?_
                (repeat (first | refine WL_nil ?_ | refine Then_normal ?_ | refine W_seq ?_ | refine W_skip ?_ | refine W_false rfl ?_))
                skip
                refine W_region rfl ?_
                refine WL_is (X_fieldAddr rfl rfl rfl (by simp only [Nat.zero_add] <;> rfl)) rfl rfl rfl ?_
                refine WL_is (X_load1 rfl rfl (by exact idx2) rfl rfl) rfl rfl rfl ?_
                refine WL_is (X_fieldAddr rfl rfl rfl (by simp only [Nat.zero_add] <;> rfl)) rfl rfl rfl ?_
                refine WL_store rfl rfl rfl (by exact idx0) rfl rfl rfl rfl rfl rfl rfl rfl rfl ?_
                (repeat (first | refine WL_nil ?_ | refine Then_normal ?_))
                skip
                refine W_region rfl ?_
                refine WL_is (X_fieldAddr rfl rfl rfl (by simp only [Nat.zero_add] <;> rfl)) rfl rfl rfl ?_
                refine WL_is (X_loadA rfl rfl (by exact idx2) rfl rfl rfl) rfl rfl rfl ?_
                refine WL_is (X_fieldAddr rfl rfl rfl (by simp only [Nat.zero_add] <;> rfl)) rfl rfl rfl ?_
                refine WL_store rfl rfl rfl (by exact idx0) rfl rfl rfl rfl rfl rfl rfl rfl rfl ?_
                (repeat (first | refine WL_nil ?_ | refine Then_normal ?_ | refine W_seq ?_))
                skip
                refine W_region rfl ?_
                refine WL_is (X_loadA rfl rfl (by exact idx0) rfl rfl rfl) rfl rfl rfl ?_
                refine WL_is (X_loadA rfl rfl (by exact idx2) rfl rfl rfl) rfl rfl rfl ?_
                refine WL_is (X_callv rfl rfl rfl Try.func18 rfl (by assumption)) rfl rfl rfl ?_
                refine WL_is (X_move rfl rfl) rfl rfl rfl ?_
                refine WL_is (X_callv rfl rfl rfl Try.func10 rfl (by assumption)) rfl rfl rfl ?_
                refine WL_is (X_pick_t rfl rfl rfl) rfl rfl rfl ?_
                refine WL_is (X_assign rfl rfl) rfl rfl rfl ?_
                (repeat (first | refine WL_nil ?_ | refine Then_normal ?_ | refine W_ret ?_))
                refine Body_end rfl rfl rfl (SubR.none _) ?_
                rfl
            · (repeat (first | refine W_seq ?_))
              refine W_region rfl ?_
              refine WL_is (X_move rfl rfl) rfl rfl rfl ?_
              refine WL_is (X_neq_t rfl rfl rfl (by omega)) rfl rfl rfl ?_
              (repeat (first | refine WL_nil ?_ | refine Then_normal ?_ | refine W_seq ?_ | refine W_true rfl ?_))
              skip
              refine W_region rfl ?_
              refine WL_is (X_callv rfl rfl rfl Try.func10 rfl (by assumption)) rfl rfl rfl ?_
              refine WL_is (X_assign rfl rfl) rfl rfl rfl ?_
              (repeat (first | refine WL_nil ?_ | refine Then_normal ?_ | refine W_ret ?_ | refine Then_ret ?_))
              refine Body_end rfl rfl rfl (SubR.none _) ?_
              rfl
end Go.Proofs.Ytligadbnoiibnaa
