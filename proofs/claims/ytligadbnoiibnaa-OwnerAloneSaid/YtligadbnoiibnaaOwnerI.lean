/- Who may turn attributes: another list. -/
import Derived.Test.YtligadbnoiibnaaOwnerF
namespace Go.Proofs.Ytligadbnoiibnaa
set_option maxRecDepth 4000
open Go Go.Par PH
def Attr.acl1 (a : Attr) (l : Acl) : Attr := { a with acc := l }
def Attr.acl2 (a : Attr) (l : Acl) : Attr := { a with hd := true, df := l }
def Attr.acl3 (a : Attr) : Attr := { a with hd := false, df := acl0 }
def setO (c : Cred) (a : Attr) (kind which : Int) (l : Acl) : Int × Attr :=
  if mayO c a = true ∧ 1 ≤ which ∧ which ≤ 3 then
    (if ownsO c a = true then
      (if which = 1 ∨ kind = 2 then
        (if which = 3 ∨ l.may = true then (0, if which = 1 then loseO c (a.acl1 l) kind else if which = 2 then a.acl2 l else a.acl3) else (622, attr0))
      else (613, attr0))
    else (601, attr0))
  else (622, attr0)
attribute [local irreducible] W WL Does Exec Body Then inBlk RG WR row obj pblk
attribute [local irreducible] bits
set_option maxHeartbeats 4000000 in
theorem setacl_fn (h : PH) (c : Cred) (cv : Value) (a : Attr) (v : Value) (kind which : Int) (l : Acl) (lv : Value) (hc : CredV h cv c) (hcl : c.gs.length ≤ 1000) (hv : AttrV h v a) (hs : a.small) (hok : a.Ok) (hl : AclV h lv l) (hls : l.small) (hlo : l.Ok) :
    Does Try.prog 13 [cv, v, .int .u8 kind, .int .u8 which, lv] [] h (Ret (AnsO (setO c a kind which l))) := by
  have m1 := may13_fn h c cv a v hc hv hs hok
  have m2 := owns_fn h c cv a v hc hv
  have m4 := check_fn h l lv hl hls hlo
  have hc' := hc
  have hv' := hv
  have u1 := unless_t h 622
  have u2 := unless_t h 601
  have u3 := unless_t h 613
  obtain ⟨x, rfl, hx⟩ := hc
  obtain ⟨xa, xc, rfl⟩ := hx.shape
  obtain ⟨p1, p2, p3, p4, p5, q1, q2, q3, q4, q5, rfl⟩ := hv.shape
  obtain ⟨lu, lg, rfl, l1, l2⟩ := hl
  obtain ⟨y1, z1, rfl⟩ := l1.shape
  obtain ⟨y2, z2, rfl⟩ := l2.shape
  unfold credV at m1 m2
  unfold attrS attrV at m1 m2
  unfold aclV at m4
  unfold credV attrS attrV aclV
  have e1 : ¬ (mayO c a = true ∧ 1 ≤ which ∧ which ≤ 3) → setO c a kind which l = (622, attr0) := fun e => by unfold setO; rw [if_neg e]
  have e2 : (mayO c a = true ∧ 1 ≤ which ∧ which ≤ 3) → ¬ ownsO c a = true → setO c a kind which l = (601, attr0) := fun e f => by unfold setO; rw [if_pos e, if_neg f]
  have e3 : (mayO c a = true ∧ 1 ≤ which ∧ which ≤ 3) → ownsO c a = true → ¬ (which = 1 ∨ kind = 2) → setO c a kind which l = (613, attr0) := fun e f g => by unfold setO; rw [if_pos e, if_pos f, if_neg g]
  have e4 : (mayO c a = true ∧ 1 ≤ which ∧ which ≤ 3) → ownsO c a = true → (which = 1 ∨ kind = 2) → ¬ (which = 3 ∨ l.may = true) → setO c a kind which l = (622, attr0) := fun e f g i => by unfold setO; rw [if_pos e, if_pos f, if_pos g, if_neg i]
  have e5 : (mayO c a = true ∧ 1 ≤ which ∧ which ≤ 3) → ownsO c a = true → (which = 1 ∨ kind = 2) → (which = 3 ∨ l.may = true) → setO c a kind which l = (0, if which = 1 then loseO c (a.acl1 l) kind else if which = 2 then a.acl2 l else a.acl3) := fun e f g i => by unfold setO; rw [if_pos e, if_pos f, if_pos g, if_pos i]
  generalize setO c a kind which l = X at *
  refine Does_of_WD Try.func13 rfl (n := 65) rfl rfl (by simp only [argE, Nat.reduceAdd] <;> rfl) ?_
  (repeat (first | refine W_seq ?_))
  refine W_region rfl ?_
  (refine WL_box rfl rfl rfl rfl rfl rfl ?_; intro b_)
  generalize b_ = cb
  (refine WL_box rfl rfl rfl rfl rfl rfl ?_; intro b_)
  generalize b_ = ab
  (refine WL_box rfl rfl rfl rfl rfl rfl ?_; intro b_)
  generalize b_ = lb
  (refine WL_alloc rfl rfl rfl rfl rfl rfl ?_; intro b_)
  generalize b_ = xb
  (refine WL_alloc rfl rfl rfl rfl rfl rfl ?_; intro b_)
  (repeat (first | refine WL_nil ?_ | refine Then_normal ?_ | refine W_seq ?_))
  generalize b_ = eb
  skip
  refine W_region rfl ?_
  refine WL_is (X_makeFunc rfl rfl rfl) rfl rfl rfl ?_
  refine WL_defer rfl rfl rfl rfl ?_
  (repeat (first | refine WL_nil ?_ | refine Then_normal ?_ | refine W_seq ?_))
  cases hmay : mayO c a with
  | false =>
    rw [hmay] at m1
    skip
    refine W_region rfl ?_
    refine WL_is (X_loadA rfl rfl (by exact idx4) rfl rfl rfl) rfl rfl rfl ?_
    refine WL_is (X_loadA rfl rfl (by exact idx3) rfl rfl rfl) rfl rfl rfl ?_
    refine WL_is (X_callv rfl rfl rfl Try.func38 rfl (by assumption)) rfl rfl rfl ?_
    refine WL_is (X_move rfl rfl) rfl rfl rfl ?_
    refine WL_off rfl rfl rfl ?_
    refine WL_off rfl rfl rfl ?_
    refine WL_is (X_pick_f rfl rfl rfl) rfl rfl rfl ?_
    refine WL_is (X_move rfl rfl) rfl rfl rfl ?_
    refine WL_off rfl rfl rfl ?_
    refine WL_off rfl rfl rfl ?_
    refine WL_is (X_pick_f rfl rfl rfl) rfl rfl rfl ?_
    refine WL_callP rfl rfl rfl Try.func37 rfl rfl rfl rfl (unless_fn h false 622) (fun _ _ _ _ hA => by cases hA.1) (fun ch R' h' hl hA => ?_) (fun _ _ hA => hA)
    obtain ⟨_, rfl, rfl⟩ := hA
    simp only [List.nil_append]
    (repeat (first | refine Then_panic ?_))
    refine fin_pan dp_SetAcl Try.func35 rfl (List.Perm.swap _ _ _) ?_
    intro h' hl
    refine RetOk_vals (.cons (.cellA rfl idx0 rfl rfl rfl) (.cons (.cell1 rfl idx1 rfl rfl) .nil)) rfl (UpdE.sub (SubR.none _) ?_)
    rw [e1 (fun e => by rw [hmay] at e; cases e.1)]
    exact AnsO.bad h' 622
  | true =>
    rw [hmay] at m1
    by_cases k1 : 1 ≤ which
    · by_cases k2 : which ≤ 3
      · have hr : mayO c a = true ∧ 1 ≤ which ∧ which ≤ 3 := ⟨hmay, k1, k2⟩
        cases hown : ownsO c a with
        | false =>
          rw [hown] at m2
          skip
          refine W_region rfl ?_
          refine WL_is (X_loadA rfl rfl (by exact idx4) rfl rfl rfl) rfl rfl rfl ?_
          refine WL_is (X_loadA rfl rfl (by exact idx3) rfl rfl rfl) rfl rfl rfl ?_
          refine WL_is (X_callv rfl rfl rfl Try.func38 rfl (by assumption)) rfl rfl rfl ?_
          refine WL_is (X_move rfl rfl) rfl rfl rfl ?_
          refine WL_is (X_move rfl rfl) rfl rfl rfl ?_
          refine WL_is (X_geq_t rfl rfl rfl (by omega)) rfl rfl rfl ?_
          refine WL_is (X_pick_t rfl rfl rfl) rfl rfl rfl ?_
          refine WL_is (X_move rfl rfl) rfl rfl rfl ?_
          refine WL_is (X_move rfl rfl) rfl rfl rfl ?_
          refine WL_is (X_leq_t rfl rfl rfl (by omega)) rfl rfl rfl ?_
          refine WL_is (X_pick_t rfl rfl rfl) rfl rfl rfl ?_
          refine WL_is (X_callv rfl rfl rfl Try.func37 rfl (by assumption)) rfl rfl rfl ?_
          (repeat (first | refine WL_nil ?_ | refine Then_normal ?_ | refine W_seq ?_))
          skip
          refine W_region rfl ?_
          refine WL_is (X_loadA rfl rfl (by exact idx4) rfl rfl rfl) rfl rfl rfl ?_
          refine WL_is (X_loadA rfl rfl (by exact idx3) rfl rfl rfl) rfl rfl rfl ?_
          refine WL_is (X_callv rfl rfl rfl Try.func39 rfl (by assumption)) rfl rfl rfl ?_
          refine WL_callP rfl rfl rfl Try.func37 rfl rfl rfl rfl (unless_fn h false 601) (fun _ _ _ _ hA => by cases hA.1) (fun ch R' h' hl hA => ?_) (fun _ _ hA => hA)
          obtain ⟨_, rfl, rfl⟩ := hA
          simp only [List.nil_append]
          (repeat (first | refine Then_panic ?_))
          refine fin_pan dp_SetAcl Try.func35 rfl (List.Perm.swap _ _ _) ?_
          intro h' hl
          refine RetOk_vals (.cons (.cellA rfl idx0 rfl rfl rfl) (.cons (.cell1 rfl idx1 rfl rfl) .nil)) rfl (UpdE.sub (SubR.none _) ?_)
          rw [e2 hr (by rw [hown]; decide)]
          exact AnsO.bad h' 601
        | true =>
          rw [hown] at m2
          rcases (by omega : which = 1 ∨ which = 2 ∨ which = 3) with rfl | rfl | rfl
          · cases hlm : l.may with
            | false =>
              rw [hlm, if_neg (by decide)] at m4
              skip
              refine W_region rfl ?_
              refine WL_is (X_loadA rfl rfl (by exact idx4) rfl rfl rfl) rfl rfl rfl ?_
              refine WL_is (X_loadA rfl rfl (by exact idx3) rfl rfl rfl) rfl rfl rfl ?_
              refine WL_is (X_callv rfl rfl rfl Try.func38 rfl (by assumption)) rfl rfl rfl ?_
              refine WL_is (X_move rfl rfl) rfl rfl rfl ?_
              refine WL_is (X_move rfl rfl) rfl rfl rfl ?_
              refine WL_is (X_geq_t rfl rfl rfl (by omega)) rfl rfl rfl ?_
              refine WL_is (X_pick_t rfl rfl rfl) rfl rfl rfl ?_
              refine WL_is (X_move rfl rfl) rfl rfl rfl ?_
              refine WL_is (X_move rfl rfl) rfl rfl rfl ?_
              refine WL_is (X_leq_t rfl rfl rfl (by omega)) rfl rfl rfl ?_
              refine WL_is (X_pick_t rfl rfl rfl) rfl rfl rfl ?_
              refine WL_is (X_callv rfl rfl rfl Try.func37 rfl (by assumption)) rfl rfl rfl ?_
              (repeat (first | refine WL_nil ?_ | refine Then_normal ?_ | refine W_seq ?_))
              skip
              refine W_region rfl ?_
              refine WL_is (X_loadA rfl rfl (by exact idx4) rfl rfl rfl) rfl rfl rfl ?_
              refine WL_is (X_loadA rfl rfl (by exact idx3) rfl rfl rfl) rfl rfl rfl ?_
              refine WL_is (X_callv rfl rfl rfl Try.func39 rfl (by assumption)) rfl rfl rfl ?_
              refine WL_is (X_callv rfl rfl rfl Try.func37 rfl (by assumption)) rfl rfl rfl ?_
              (repeat (first | refine WL_nil ?_ | refine Then_normal ?_ | refine W_seq ?_))
              skip
              refine W_region rfl ?_
              refine WL_is (X_move rfl rfl) rfl rfl rfl ?_
              refine WL_is (X_eql_t rfl rfl rfl (by omega)) rfl rfl rfl ?_
              refine WL_is (X_move rfl rfl) rfl rfl rfl ?_
              refine WL_off rfl rfl rfl ?_
              refine WL_off rfl rfl rfl ?_
              refine WL_is (X_pick_t rfl rfl rfl) rfl rfl rfl ?_
              refine WL_is (X_callv rfl rfl rfl Try.func37 rfl (by assumption)) rfl rfl rfl ?_
              (repeat (first | refine WL_nil ?_ | refine Then_normal ?_ | refine W_seq ?_))
              skip
              refine W_region rfl ?_
              refine WL_is (X_move rfl rfl) rfl rfl rfl ?_
              refine WL_is (X_eql_f rfl rfl rfl (by omega)) rfl rfl rfl ?_
              refine WL_is (X_move rfl rfl) rfl rfl rfl ?_
              refine WL_is (X_loadA rfl rfl (by exact idx2) rfl rfl rfl) rfl rfl rfl ?_
              refine WL_is (X_callv rfl rfl rfl Try.func40 rfl (by assumption)) rfl rfl rfl ?_
              refine WL_is (X_eql_f rfl rfl rfl (by omega)) rfl rfl rfl ?_
              refine WL_is (X_pick_f rfl rfl rfl) rfl rfl rfl ?_
              refine WL_callP rfl rfl rfl Try.func37 rfl rfl rfl rfl (unless_fn h false 622) (fun _ _ _ _ hA => by cases hA.1) (fun ch R' h' hl hA => ?_) (fun _ _ hA => hA)
              obtain ⟨_, rfl, rfl⟩ := hA
              simp only [List.nil_append]
              (repeat (first | refine Then_panic ?_))
              refine fin_pan dp_SetAcl Try.func35 rfl (List.Perm.swap _ _ _) ?_
              intro h' hl
              refine RetOk_vals (.cons (.cellA rfl idx0 rfl rfl rfl) (.cons (.cell1 rfl idx1 rfl rfl) .nil)) rfl (UpdE.sub (SubR.none _) ?_)
              rw [e4 hr hown (Or.inl rfl) (by rw [hlm]; simp)]
              exact AnsO.bad h' 622
            | true =>
              rw [hlm, if_pos rfl] at m4
              rw [e5 hr hown (Or.inl rfl) (Or.inr hlm), if_pos rfl]
              skip
              refine W_region rfl ?_
              refine WL_is (X_loadA rfl rfl (by exact idx4) rfl rfl rfl) rfl rfl rfl ?_
              refine WL_is (X_loadA rfl rfl (by exact idx3) rfl rfl rfl) rfl rfl rfl ?_
              refine WL_is (X_callv rfl rfl rfl Try.func38 rfl (by assumption)) rfl rfl rfl ?_
              refine WL_is (X_move rfl rfl) rfl rfl rfl ?_
              refine WL_is (X_move rfl rfl) rfl rfl rfl ?_
              refine WL_is (X_geq_t rfl rfl rfl (by omega)) rfl rfl rfl ?_
              refine WL_is (X_pick_t rfl rfl rfl) rfl rfl rfl ?_
              refine WL_is (X_move rfl rfl) rfl rfl rfl ?_
              refine WL_is (X_move rfl rfl) rfl rfl rfl ?_
              refine WL_is (X_leq_t rfl rfl rfl (by omega)) rfl rfl rfl ?_
              refine WL_is (X_pick_t rfl rfl rfl) rfl rfl rfl ?_
              refine WL_is (X_callv rfl rfl rfl Try.func37 rfl (by assumption)) rfl rfl rfl ?_
              (repeat (first | refine WL_nil ?_ | refine Then_normal ?_ | refine W_seq ?_))
              skip
              refine W_region rfl ?_
              refine WL_is (X_loadA rfl rfl (by exact idx4) rfl rfl rfl) rfl rfl rfl ?_
              refine WL_is (X_loadA rfl rfl (by exact idx3) rfl rfl rfl) rfl rfl rfl ?_
              refine WL_is (X_callv rfl rfl rfl Try.func39 rfl (by assumption)) rfl rfl rfl ?_
              refine WL_is (X_callv rfl rfl rfl Try.func37 rfl (by assumption)) rfl rfl rfl ?_
              (repeat (first | refine WL_nil ?_ | refine Then_normal ?_ | refine W_seq ?_))
              skip
              refine W_region rfl ?_
              refine WL_is (X_move rfl rfl) rfl rfl rfl ?_
              refine WL_is (X_eql_t rfl rfl rfl (by omega)) rfl rfl rfl ?_
              refine WL_is (X_move rfl rfl) rfl rfl rfl ?_
              refine WL_off rfl rfl rfl ?_
              refine WL_off rfl rfl rfl ?_
              refine WL_is (X_pick_t rfl rfl rfl) rfl rfl rfl ?_
              refine WL_is (X_callv rfl rfl rfl Try.func37 rfl (by assumption)) rfl rfl rfl ?_
              (repeat (first | refine WL_nil ?_ | refine Then_normal ?_ | refine W_seq ?_))
              skip
              refine W_region rfl ?_
              refine WL_is (X_move rfl rfl) rfl rfl rfl ?_
              refine WL_is (X_eql_f rfl rfl rfl (by omega)) rfl rfl rfl ?_
              refine WL_is (X_move rfl rfl) rfl rfl rfl ?_
              refine WL_is (X_loadA rfl rfl (by exact idx2) rfl rfl rfl) rfl rfl rfl ?_
              refine WL_is (X_callv rfl rfl rfl Try.func40 rfl (by assumption)) rfl rfl rfl ?_
              refine WL_is (X_eql_t rfl rfl rfl (by omega)) rfl rfl rfl ?_
              refine WL_is (X_pick_f rfl rfl rfl) rfl rfl rfl ?_
              refine WL_is (X_callv rfl rfl rfl Try.func37 rfl (by assumption)) rfl rfl rfl ?_
              (repeat (first | refine WL_nil ?_ | refine Then_normal ?_ | refine W_seq ?_))
              skip
              refine W_region rfl ?_
              refine WL_is (X_loadA rfl rfl (by exact idx3) rfl rfl rfl) rfl rfl rfl ?_
              refine WL_call rfl rfl rfl Try.func41 rfl rfl rfl rfl (attrCopyK_fn h a _ hv' hs) ?_
              rintro _ _ H1 L1 ⟨hA, rfl⟩
              obtain ⟨U, G, U2, G2, XV, rfl, s1, s2, s3, s4, s5⟩ := hA
              obtain ⟨o1, w1, rfl⟩ := s1.shape
              obtain ⟨o2, w2, rfl⟩ := s2.shape
              obtain ⟨o3, w3, rfl⟩ := s3.shape
              obtain ⟨o4, w4, rfl⟩ := s4.shape
              obtain ⟨o5, w5, rfl⟩ := s5.shape
              simp only [List.nil_append]
              unfold attrV
              refine WL_store rfl rfl rfl (by exact idx1) rfl rfl rfl rfl rfl rfl rfl rfl rfl ?_
              (repeat (first | refine WL_nil ?_ | refine Then_normal ?_ | refine W_seq ?_))
              skip
              refine W_region rfl ?_
              refine WL_is (X_move rfl rfl) rfl rfl rfl ?_
              (repeat (first | refine WL_nil ?_ | refine Then_normal ?_ | refine W_seq ?_ | refine W_block ?_))
              skip
              refine W_region rfl ?_
              refine WL_is (X_eql_t rfl rfl rfl (by omega)) rfl rfl rfl ?_
              refine WL_is (X_assign rfl rfl) rfl rfl rfl ?_
              (repeat (first | refine WL_nil ?_ | refine Then_normal ?_ | refine W_seq ?_ | refine W_true rfl ?_))
              skip
              refine W_region rfl ?_
              refine WL_is (X_loadA rfl rfl (by exact idx2) rfl rfl rfl) rfl rfl rfl ?_
              refine WL_call rfl rfl rfl Try.func42 rfl rfl rfl rfl (copyK_fn (h := H1) (a := l) ⟨_, _, rfl, l1.mono L1, l2.mono L1⟩ hls) ?_
              rintro _ _ H2 L2 ⟨⟨V, F, rfl, r1, r2⟩, rfl⟩
              obtain ⟨va, vc, rfl⟩ := r1.shape
              obtain ⟨fa, fc, rfl⟩ := r2.shape
              simp only [List.nil_append, aclV]
              refine WL_is (X_fieldAddr rfl rfl rfl (by simp only [Nat.zero_add] <;> rfl)) rfl rfl rfl ?_
              refine WL_store rfl rfl rfl (by exact idx1) rfl rfl rfl rfl rfl rfl rfl rfl rfl ?_
              (repeat (first | refine WL_nil ?_ | refine Then_normal ?_))
              skip
              refine W_region rfl ?_
              refine WL_is (X_loadA rfl rfl (by exact idx4) rfl rfl rfl) rfl rfl rfl ?_
              refine WL_is (X_move rfl rfl) rfl rfl rfl ?_
              refine WL_callR [_] _ rfl rfl rfl Try.func43 rfl rfl rfl rfl (perm_front 1 rfl) (lose_fn H2 c _ (a.acl1 l) kind xb _ _ _ _ _ (hc'.mono (L1.trans L2)) hcl) ?_
              rintro _ _ H3 L3 rfl
              simp only [List.cons_append, List.nil_append, List.eraseIdx_cons_zero]
              (repeat (first | refine WL_nil ?_ | refine Then_normal ?_ | refine W_seq ?_ | refine inBlk_normal ?_))
              skip
              refine W_region rfl ?_
              refine WL_is (X_loadA rfl rfl (by exact idx0) rfl rfl rfl) rfl rfl rfl ?_
              refine WL_store rfl rfl rfl (by exact idx0) rfl rfl rfl rfl rfl rfl rfl rfl rfl ?_
              refine WL_store rfl rfl rfl (by exact idx1) rfl rfl rfl rfl rfl rfl rfl rfl rfl ?_
              (repeat (first | refine WL_nil ?_ | refine Then_normal ?_ | refine W_ret ?_))
              refine fin_ret dn_SetAcl Try.func35 rfl ?_
              intro h' hl
              refine RetOk_vals (.cons (.cellA rfl (by exact idx0) rfl rfl rfl) (.cons (.cell1 rfl (by exact idx1) rfl rfl) .nil)) rfl (UpdE.sub (SubR.none _) ?_)
              have LL := L3.trans hl
              exact ⟨⟨_, rfl, _, _, _, _, _, rfl, r1.mono LL, r2.mono LL, s3.mono (L2.trans LL), s4.mono (L2.trans LL), s5.mono (L2.trans LL)⟩, rfl⟩
          · by_cases k3 : kind = 2
            · cases hlm : l.may with
              | false =>
                rw [hlm, if_neg (by decide)] at m4
                skip
                refine W_region rfl ?_
                refine WL_is (X_loadA rfl rfl (by exact idx4) rfl rfl rfl) rfl rfl rfl ?_
                refine WL_is (X_loadA rfl rfl (by exact idx3) rfl rfl rfl) rfl rfl rfl ?_
                refine WL_is (X_callv rfl rfl rfl Try.func38 rfl (by assumption)) rfl rfl rfl ?_
                refine WL_is (X_move rfl rfl) rfl rfl rfl ?_
                refine WL_is (X_move rfl rfl) rfl rfl rfl ?_
                refine WL_is (X_geq_t rfl rfl rfl (by omega)) rfl rfl rfl ?_
                refine WL_is (X_pick_t rfl rfl rfl) rfl rfl rfl ?_
                refine WL_is (X_move rfl rfl) rfl rfl rfl ?_
                refine WL_is (X_move rfl rfl) rfl rfl rfl ?_
                refine WL_is (X_leq_t rfl rfl rfl (by omega)) rfl rfl rfl ?_
                refine WL_is (X_pick_t rfl rfl rfl) rfl rfl rfl ?_
                refine WL_is (X_callv rfl rfl rfl Try.func37 rfl (by assumption)) rfl rfl rfl ?_
                (repeat (first | refine WL_nil ?_ | refine Then_normal ?_ | refine W_seq ?_))
                skip
                refine W_region rfl ?_
                refine WL_is (X_loadA rfl rfl (by exact idx4) rfl rfl rfl) rfl rfl rfl ?_
                refine WL_is (X_loadA rfl rfl (by exact idx3) rfl rfl rfl) rfl rfl rfl ?_
                refine WL_is (X_callv rfl rfl rfl Try.func39 rfl (by assumption)) rfl rfl rfl ?_
                refine WL_is (X_callv rfl rfl rfl Try.func37 rfl (by assumption)) rfl rfl rfl ?_
                (repeat (first | refine WL_nil ?_ | refine Then_normal ?_ | refine W_seq ?_))
                skip
                refine W_region rfl ?_
                refine WL_is (X_move rfl rfl) rfl rfl rfl ?_
                refine WL_is (X_eql_f rfl rfl rfl (by omega)) rfl rfl rfl ?_
                refine WL_is (X_move rfl rfl) rfl rfl rfl ?_
                refine WL_is (X_move rfl rfl) rfl rfl rfl ?_
                refine WL_is (X_eql_t rfl rfl rfl (by omega)) rfl rfl rfl ?_
                refine WL_is (X_pick_f rfl rfl rfl) rfl rfl rfl ?_
                refine WL_is (X_callv rfl rfl rfl Try.func37 rfl (by assumption)) rfl rfl rfl ?_
                (repeat (first | refine WL_nil ?_ | refine Then_normal ?_ | refine W_seq ?_))
                skip
                refine W_region rfl ?_
                refine WL_is (X_move rfl rfl) rfl rfl rfl ?_
                refine WL_is (X_eql_f rfl rfl rfl (by omega)) rfl rfl rfl ?_
                refine WL_is (X_move rfl rfl) rfl rfl rfl ?_
                refine WL_is (X_loadA rfl rfl (by exact idx2) rfl rfl rfl) rfl rfl rfl ?_
                refine WL_is (X_callv rfl rfl rfl Try.func40 rfl (by assumption)) rfl rfl rfl ?_
                refine WL_is (X_eql_f rfl rfl rfl (by omega)) rfl rfl rfl ?_
                refine WL_is (X_pick_f rfl rfl rfl) rfl rfl rfl ?_
                refine WL_callP rfl rfl rfl Try.func37 rfl rfl rfl rfl (unless_fn h false 622) (fun _ _ _ _ hA => by cases hA.1) (fun ch R' h' hl hA => ?_) (fun _ _ hA => hA)
                obtain ⟨_, rfl, rfl⟩ := hA
                simp only [List.nil_append]
                (repeat (first | refine Then_panic ?_))
                refine fin_pan dp_SetAcl Try.func35 rfl (List.Perm.swap _ _ _) ?_
                intro h' hl
                refine RetOk_vals (.cons (.cellA rfl idx0 rfl rfl rfl) (.cons (.cell1 rfl idx1 rfl rfl) .nil)) rfl (UpdE.sub (SubR.none _) ?_)
                rw [e4 hr hown (Or.inr k3) (by rw [hlm]; simp)]
                exact AnsO.bad h' 622
              | true =>
                rw [hlm, if_pos rfl] at m4
                rw [e5 hr hown (Or.inr k3) (Or.inr hlm), if_neg (by decide), if_pos rfl]
                skip
                refine W_region rfl ?_
                refine WL_is (X_loadA rfl rfl (by exact idx4) rfl rfl rfl) rfl rfl rfl ?_
                refine WL_is (X_loadA rfl rfl (by exact idx3) rfl rfl rfl) rfl rfl rfl ?_
                refine WL_is (X_callv rfl rfl rfl Try.func38 rfl (by assumption)) rfl rfl rfl ?_
                refine WL_is (X_move rfl rfl) rfl rfl rfl ?_
                refine WL_is (X_move rfl rfl) rfl rfl rfl ?_
                refine WL_is (X_geq_t rfl rfl rfl (by omega)) rfl rfl rfl ?_
                refine WL_is (X_pick_t rfl rfl rfl) rfl rfl rfl ?_
                refine WL_is (X_move rfl rfl) rfl rfl rfl ?_
                refine WL_is (X_move rfl rfl) rfl rfl rfl ?_
                refine WL_is (X_leq_t rfl rfl rfl (by omega)) rfl rfl rfl ?_
                refine WL_is (X_pick_t rfl rfl rfl) rfl rfl rfl ?_
                refine WL_is (X_callv rfl rfl rfl Try.func37 rfl (by assumption)) rfl rfl rfl ?_
                (repeat (first | refine WL_nil ?_ | refine Then_normal ?_ | refine W_seq ?_))
                skip
                refine W_region rfl ?_
                refine WL_is (X_loadA rfl rfl (by exact idx4) rfl rfl rfl) rfl rfl rfl ?_
                refine WL_is (X_loadA rfl rfl (by exact idx3) rfl rfl rfl) rfl rfl rfl ?_
                refine WL_is (X_callv rfl rfl rfl Try.func39 rfl (by assumption)) rfl rfl rfl ?_
                refine WL_is (X_callv rfl rfl rfl Try.func37 rfl (by assumption)) rfl rfl rfl ?_
                (repeat (first | refine WL_nil ?_ | refine Then_normal ?_ | refine W_seq ?_))
                skip
                refine W_region rfl ?_
                refine WL_is (X_move rfl rfl) rfl rfl rfl ?_
                refine WL_is (X_eql_f rfl rfl rfl (by omega)) rfl rfl rfl ?_
                refine WL_is (X_move rfl rfl) rfl rfl rfl ?_
                refine WL_is (X_move rfl rfl) rfl rfl rfl ?_
                refine WL_is (X_eql_t rfl rfl rfl (by omega)) rfl rfl rfl ?_
                refine WL_is (X_pick_f rfl rfl rfl) rfl rfl rfl ?_
                refine WL_is (X_callv rfl rfl rfl Try.func37 rfl (by assumption)) rfl rfl rfl ?_
                (repeat (first | refine WL_nil ?_ | refine Then_normal ?_ | refine W_seq ?_))
                skip
                refine W_region rfl ?_
                refine WL_is (X_move rfl rfl) rfl rfl rfl ?_
                refine WL_is (X_eql_f rfl rfl rfl (by omega)) rfl rfl rfl ?_
                refine WL_is (X_move rfl rfl) rfl rfl rfl ?_
                refine WL_is (X_loadA rfl rfl (by exact idx2) rfl rfl rfl) rfl rfl rfl ?_
                refine WL_is (X_callv rfl rfl rfl Try.func40 rfl (by assumption)) rfl rfl rfl ?_
                refine WL_is (X_eql_t rfl rfl rfl (by omega)) rfl rfl rfl ?_
                refine WL_is (X_pick_f rfl rfl rfl) rfl rfl rfl ?_
                refine WL_is (X_callv rfl rfl rfl Try.func37 rfl (by assumption)) rfl rfl rfl ?_
                (repeat (first | refine WL_nil ?_ | refine Then_normal ?_ | refine W_seq ?_))
                skip
                refine W_region rfl ?_
                refine WL_is (X_loadA rfl rfl (by exact idx3) rfl rfl rfl) rfl rfl rfl ?_
                refine WL_call rfl rfl rfl Try.func41 rfl rfl rfl rfl (attrCopyK_fn h a _ hv' hs) ?_
                rintro _ _ H1 L1 ⟨hA, rfl⟩
                obtain ⟨U, G, U2, G2, XV, rfl, s1, s2, s3, s4, s5⟩ := hA
                obtain ⟨o1, w1, rfl⟩ := s1.shape
                obtain ⟨o2, w2, rfl⟩ := s2.shape
                obtain ⟨o3, w3, rfl⟩ := s3.shape
                obtain ⟨o4, w4, rfl⟩ := s4.shape
                obtain ⟨o5, w5, rfl⟩ := s5.shape
                simp only [List.nil_append]
                unfold attrV
                refine WL_store rfl rfl rfl (by exact idx1) rfl rfl rfl rfl rfl rfl rfl rfl rfl ?_
                (repeat (first | refine WL_nil ?_ | refine Then_normal ?_ | refine W_seq ?_))
                skip
                refine W_region rfl ?_
                refine WL_is (X_move rfl rfl) rfl rfl rfl ?_
                (repeat (first | refine WL_nil ?_ | refine Then_normal ?_ | refine W_seq ?_ | refine W_block ?_))
                skip
                refine W_region rfl ?_
                refine WL_is (X_eql_f rfl rfl rfl (by omega)) rfl rfl rfl ?_
                refine WL_is (X_assign rfl rfl) rfl rfl rfl ?_
                (repeat (first | refine WL_nil ?_ | refine Then_normal ?_ | refine W_seq ?_ | refine W_false rfl ?_))
                skip
                refine W_region rfl ?_
                refine WL_is (X_eql_t rfl rfl rfl (by omega)) rfl rfl rfl ?_
                refine WL_is (X_assign rfl rfl) rfl rfl rfl ?_
                (repeat (first | refine WL_nil ?_ | refine Then_normal ?_ | refine W_true rfl ?_))
                skip
                refine W_region rfl ?_
                refine WL_is (X_loadA rfl rfl (by exact idx2) rfl rfl rfl) rfl rfl rfl ?_
                refine WL_call rfl rfl rfl Try.func42 rfl rfl rfl rfl (copyK_fn (h := H1) (a := l) ⟨_, _, rfl, l1.mono L1, l2.mono L1⟩ hls) ?_
                rintro _ _ H2 L2 ⟨⟨V, F, rfl, r1, r2⟩, rfl⟩
                obtain ⟨va, vc, rfl⟩ := r1.shape
                obtain ⟨fa, fc, rfl⟩ := r2.shape
                simp only [List.nil_append, aclV]
                refine WL_is (X_fieldAddr rfl rfl rfl (by simp only [Nat.zero_add] <;> rfl)) rfl rfl rfl ?_
                refine WL_store rfl rfl rfl (by exact idx1) rfl rfl rfl rfl rfl rfl rfl rfl rfl ?_
                refine WL_is (X_fieldAddr rfl rfl rfl (by simp only [Nat.zero_add] <;> rfl)) rfl rfl rfl ?_
                refine WL_store rfl rfl rfl (by exact idx1) rfl rfl rfl rfl rfl rfl rfl rfl rfl ?_
                (repeat (first | refine WL_nil ?_ | refine Then_normal ?_ | refine W_seq ?_ | refine inBlk_normal ?_))
                skip
                refine W_region rfl ?_
                refine WL_is (X_loadA rfl rfl (by exact idx1) rfl rfl rfl) rfl rfl rfl ?_
                refine WL_store rfl rfl rfl (by exact idx1) rfl rfl rfl rfl rfl rfl rfl rfl rfl ?_
                refine WL_store rfl rfl rfl (by exact idx0) rfl rfl rfl rfl rfl rfl rfl rfl rfl ?_
                (repeat (first | refine WL_nil ?_ | refine Then_normal ?_ | refine W_ret ?_))
                refine fin_ret dn_SetAcl Try.func35 rfl ?_
                intro h' hl
                refine RetOk_vals (.cons (.cellA rfl (by exact idx1) rfl rfl rfl) (.cons (.cell1 rfl (by exact idx0) rfl rfl) .nil)) rfl (UpdE.sub (SubR.none _) ?_)
                exact ⟨⟨_, rfl, _, _, _, _, _, rfl, s1.mono (L2.trans hl), s2.mono (L2.trans hl), r1.mono hl, r2.mono hl, s5.mono (L2.trans hl)⟩, rfl⟩
            · skip
              refine W_region rfl ?_
              refine WL_is (X_loadA rfl rfl (by exact idx4) rfl rfl rfl) rfl rfl rfl ?_
              refine WL_is (X_loadA rfl rfl (by exact idx3) rfl rfl rfl) rfl rfl rfl ?_
              refine WL_is (X_callv rfl rfl rfl Try.func38 rfl (by assumption)) rfl rfl rfl ?_
              refine WL_is (X_move rfl rfl) rfl rfl rfl ?_
              refine WL_is (X_move rfl rfl) rfl rfl rfl ?_
              refine WL_is (X_geq_t rfl rfl rfl (by omega)) rfl rfl rfl ?_
              refine WL_is (X_pick_t rfl rfl rfl) rfl rfl rfl ?_
              refine WL_is (X_move rfl rfl) rfl rfl rfl ?_
              refine WL_is (X_move rfl rfl) rfl rfl rfl ?_
              refine WL_is (X_leq_t rfl rfl rfl (by omega)) rfl rfl rfl ?_
              refine WL_is (X_pick_t rfl rfl rfl) rfl rfl rfl ?_
              refine WL_is (X_callv rfl rfl rfl Try.func37 rfl (by assumption)) rfl rfl rfl ?_
              (repeat (first | refine WL_nil ?_ | refine Then_normal ?_ | refine W_seq ?_))
              skip
              refine W_region rfl ?_
              refine WL_is (X_loadA rfl rfl (by exact idx4) rfl rfl rfl) rfl rfl rfl ?_
              refine WL_is (X_loadA rfl rfl (by exact idx3) rfl rfl rfl) rfl rfl rfl ?_
              refine WL_is (X_callv rfl rfl rfl Try.func39 rfl (by assumption)) rfl rfl rfl ?_
              refine WL_is (X_callv rfl rfl rfl Try.func37 rfl (by assumption)) rfl rfl rfl ?_
              (repeat (first | refine WL_nil ?_ | refine Then_normal ?_ | refine W_seq ?_))
              skip
              refine W_region rfl ?_
              refine WL_is (X_move rfl rfl) rfl rfl rfl ?_
              refine WL_is (X_eql_f rfl rfl rfl (by omega)) rfl rfl rfl ?_
              refine WL_is (X_move rfl rfl) rfl rfl rfl ?_
              refine WL_is (X_move rfl rfl) rfl rfl rfl ?_
              refine WL_is (X_eql_f rfl rfl rfl (by omega)) rfl rfl rfl ?_
              refine WL_is (X_pick_f rfl rfl rfl) rfl rfl rfl ?_
              refine WL_callP rfl rfl rfl Try.func37 rfl rfl rfl rfl (unless_fn h false 613) (fun _ _ _ _ hA => by cases hA.1) (fun ch R' h' hl hA => ?_) (fun _ _ hA => hA)
              obtain ⟨_, rfl, rfl⟩ := hA
              simp only [List.nil_append]
              (repeat (first | refine Then_panic ?_))
              refine fin_pan dp_SetAcl Try.func35 rfl (List.Perm.swap _ _ _) ?_
              intro h' hl
              refine RetOk_vals (.cons (.cellA rfl idx0 rfl rfl rfl) (.cons (.cell1 rfl idx1 rfl rfl) .nil)) rfl (UpdE.sub (SubR.none _) ?_)
              rw [e3 hr hown (by rintro (e | e); cases e; exact k3 e)]
              exact AnsO.bad h' 613
          · by_cases k3 : kind = 2
            · rw [e5 hr hown (Or.inr k3) (Or.inl rfl), if_neg (by decide), if_neg (by decide)]
              skip
              refine W_region rfl ?_
              refine WL_is (X_loadA rfl rfl (by exact idx4) rfl rfl rfl) rfl rfl rfl ?_
              refine WL_is (X_loadA rfl rfl (by exact idx3) rfl rfl rfl) rfl rfl rfl ?_
              refine WL_is (X_callv rfl rfl rfl Try.func38 rfl (by assumption)) rfl rfl rfl ?_
              refine WL_is (X_move rfl rfl) rfl rfl rfl ?_
              refine WL_is (X_move rfl rfl) rfl rfl rfl ?_
              refine WL_is (X_geq_t rfl rfl rfl (by omega)) rfl rfl rfl ?_
              refine WL_is (X_pick_t rfl rfl rfl) rfl rfl rfl ?_
              refine WL_is (X_move rfl rfl) rfl rfl rfl ?_
              refine WL_is (X_move rfl rfl) rfl rfl rfl ?_
              refine WL_is (X_leq_t rfl rfl rfl (by omega)) rfl rfl rfl ?_
              refine WL_is (X_pick_t rfl rfl rfl) rfl rfl rfl ?_
              refine WL_is (X_callv rfl rfl rfl Try.func37 rfl (by assumption)) rfl rfl rfl ?_
              (repeat (first | refine WL_nil ?_ | refine Then_normal ?_ | refine W_seq ?_))
              skip
              refine W_region rfl ?_
              refine WL_is (X_loadA rfl rfl (by exact idx4) rfl rfl rfl) rfl rfl rfl ?_
              refine WL_is (X_loadA rfl rfl (by exact idx3) rfl rfl rfl) rfl rfl rfl ?_
              refine WL_is (X_callv rfl rfl rfl Try.func39 rfl (by assumption)) rfl rfl rfl ?_
              refine WL_is (X_callv rfl rfl rfl Try.func37 rfl (by assumption)) rfl rfl rfl ?_
              (repeat (first | refine WL_nil ?_ | refine Then_normal ?_ | refine W_seq ?_))
              skip
              refine W_region rfl ?_
              refine WL_is (X_move rfl rfl) rfl rfl rfl ?_
              refine WL_is (X_eql_f rfl rfl rfl (by omega)) rfl rfl rfl ?_
              refine WL_is (X_move rfl rfl) rfl rfl rfl ?_
              refine WL_is (X_move rfl rfl) rfl rfl rfl ?_
              refine WL_is (X_eql_t rfl rfl rfl (by omega)) rfl rfl rfl ?_
              refine WL_is (X_pick_f rfl rfl rfl) rfl rfl rfl ?_
              refine WL_is (X_callv rfl rfl rfl Try.func37 rfl (by assumption)) rfl rfl rfl ?_
              (repeat (first | refine WL_nil ?_ | refine Then_normal ?_ | refine W_seq ?_))
              skip
              refine W_region rfl ?_
              refine WL_is (X_move rfl rfl) rfl rfl rfl ?_
              refine WL_is (X_eql_t rfl rfl rfl (by omega)) rfl rfl rfl ?_
              refine WL_is (X_move rfl rfl) rfl rfl rfl ?_
              refine WL_off rfl rfl rfl ?_
              refine WL_off rfl rfl rfl ?_
              refine WL_off rfl rfl rfl ?_
              refine WL_is (X_pick_t rfl rfl rfl) rfl rfl rfl ?_
              refine WL_is (X_callv rfl rfl rfl Try.func37 rfl (by assumption)) rfl rfl rfl ?_
              (repeat (first | refine WL_nil ?_ | refine Then_normal ?_ | refine W_seq ?_))
              skip
              refine W_region rfl ?_
              refine WL_is (X_loadA rfl rfl (by exact idx3) rfl rfl rfl) rfl rfl rfl ?_
              refine WL_call rfl rfl rfl Try.func41 rfl rfl rfl rfl (attrCopyK_fn h a _ hv' hs) ?_
              rintro _ _ H1 L1 ⟨hA, rfl⟩
              obtain ⟨U, G, U2, G2, XV, rfl, s1, s2, s3, s4, s5⟩ := hA
              obtain ⟨o1, w1, rfl⟩ := s1.shape
              obtain ⟨o2, w2, rfl⟩ := s2.shape
              obtain ⟨o3, w3, rfl⟩ := s3.shape
              obtain ⟨o4, w4, rfl⟩ := s4.shape
              obtain ⟨o5, w5, rfl⟩ := s5.shape
              simp only [List.nil_append]
              unfold attrV
              refine WL_store rfl rfl rfl (by exact idx1) rfl rfl rfl rfl rfl rfl rfl rfl rfl ?_
              (repeat (first | refine WL_nil ?_ | refine Then_normal ?_ | refine W_seq ?_))
              skip
              refine W_region rfl ?_
              refine WL_is (X_move rfl rfl) rfl rfl rfl ?_
              (repeat (first | refine WL_nil ?_ | refine Then_normal ?_ | refine W_seq ?_ | refine W_block ?_))
              skip
              refine W_region rfl ?_
              refine WL_is (X_eql_f rfl rfl rfl (by omega)) rfl rfl rfl ?_
              refine WL_is (X_assign rfl rfl) rfl rfl rfl ?_
              (repeat (first | refine WL_nil ?_ | refine Then_normal ?_ | refine W_seq ?_ | refine W_false rfl ?_))
              skip
              refine W_region rfl ?_
              refine WL_is (X_eql_f rfl rfl rfl (by omega)) rfl rfl rfl ?_
              refine WL_is (X_assign rfl rfl) rfl rfl rfl ?_
              (repeat (first | refine WL_nil ?_ | refine Then_normal ?_ | refine W_false rfl ?_))
              skip
              refine W_region rfl ?_
              refine WL_is (X_build rfl rfl rfl) rfl rfl rfl ?_
              refine WL_is (X_fieldAddr rfl rfl rfl (by simp only [Nat.zero_add] <;> rfl)) rfl rfl rfl ?_
              refine WL_store rfl rfl rfl (by exact idx1) rfl rfl rfl rfl rfl rfl rfl rfl rfl ?_
              refine WL_is (X_fieldAddr rfl rfl rfl (by simp only [Nat.zero_add] <;> rfl)) rfl rfl rfl ?_
              refine WL_store rfl rfl rfl (by exact idx1) rfl rfl rfl rfl rfl rfl rfl rfl rfl ?_
              (repeat (first | refine WL_nil ?_ | refine Then_normal ?_ | refine W_seq ?_ | refine inBlk_normal ?_))
              skip
              refine W_region rfl ?_
              refine WL_is (X_loadA rfl rfl (by exact idx1) rfl rfl rfl) rfl rfl rfl ?_
              refine WL_store rfl rfl rfl (by exact idx1) rfl rfl rfl rfl rfl rfl rfl rfl rfl ?_
              refine WL_store rfl rfl rfl (by exact idx0) rfl rfl rfl rfl rfl rfl rfl rfl rfl ?_
              (repeat (first | refine WL_nil ?_ | refine Then_normal ?_ | refine W_ret ?_))
              refine fin_ret dn_SetAcl Try.func35 rfl ?_
              intro h' hl
              refine RetOk_vals (.cons (.cellA rfl (by exact idx1) rfl rfl rfl) (.cons (.cell1 rfl (by exact idx0) rfl rfl) .nil)) rfl (UpdE.sub (SubR.none _) ?_)
              exact ⟨⟨_, rfl, _, _, _, _, _, rfl, s1.mono hl, s2.mono hl, Sl.nil, Sl.nil, s5.mono hl⟩, rfl⟩
            · skip
              refine W_region rfl ?_
              refine WL_is (X_loadA rfl rfl (by exact idx4) rfl rfl rfl) rfl rfl rfl ?_
              refine WL_is (X_loadA rfl rfl (by exact idx3) rfl rfl rfl) rfl rfl rfl ?_
              refine WL_is (X_callv rfl rfl rfl Try.func38 rfl (by assumption)) rfl rfl rfl ?_
              refine WL_is (X_move rfl rfl) rfl rfl rfl ?_
              refine WL_is (X_move rfl rfl) rfl rfl rfl ?_
              refine WL_is (X_geq_t rfl rfl rfl (by omega)) rfl rfl rfl ?_
              refine WL_is (X_pick_t rfl rfl rfl) rfl rfl rfl ?_
              refine WL_is (X_move rfl rfl) rfl rfl rfl ?_
              refine WL_is (X_move rfl rfl) rfl rfl rfl ?_
              refine WL_is (X_leq_t rfl rfl rfl (by omega)) rfl rfl rfl ?_
              refine WL_is (X_pick_t rfl rfl rfl) rfl rfl rfl ?_
              refine WL_is (X_callv rfl rfl rfl Try.func37 rfl (by assumption)) rfl rfl rfl ?_
              (repeat (first | refine WL_nil ?_ | refine Then_normal ?_ | refine W_seq ?_))
              skip
              refine W_region rfl ?_
              refine WL_is (X_loadA rfl rfl (by exact idx4) rfl rfl rfl) rfl rfl rfl ?_
              refine WL_is (X_loadA rfl rfl (by exact idx3) rfl rfl rfl) rfl rfl rfl ?_
              refine WL_is (X_callv rfl rfl rfl Try.func39 rfl (by assumption)) rfl rfl rfl ?_
              refine WL_is (X_callv rfl rfl rfl Try.func37 rfl (by assumption)) rfl rfl rfl ?_
              (repeat (first | refine WL_nil ?_ | refine Then_normal ?_ | refine W_seq ?_))
              skip
              refine W_region rfl ?_
              refine WL_is (X_move rfl rfl) rfl rfl rfl ?_
              refine WL_is (X_eql_f rfl rfl rfl (by omega)) rfl rfl rfl ?_
              refine WL_is (X_move rfl rfl) rfl rfl rfl ?_
              refine WL_is (X_move rfl rfl) rfl rfl rfl ?_
              refine WL_is (X_eql_f rfl rfl rfl (by omega)) rfl rfl rfl ?_
              refine WL_is (X_pick_f rfl rfl rfl) rfl rfl rfl ?_
              refine WL_callP rfl rfl rfl Try.func37 rfl rfl rfl rfl (unless_fn h false 613) (fun _ _ _ _ hA => by cases hA.1) (fun ch R' h' hl hA => ?_) (fun _ _ hA => hA)
              obtain ⟨_, rfl, rfl⟩ := hA
              simp only [List.nil_append]
              (repeat (first | refine Then_panic ?_))
              refine fin_pan dp_SetAcl Try.func35 rfl (List.Perm.swap _ _ _) ?_
              intro h' hl
              refine RetOk_vals (.cons (.cellA rfl idx0 rfl rfl rfl) (.cons (.cell1 rfl idx1 rfl rfl) .nil)) rfl (UpdE.sub (SubR.none _) ?_)
              rw [e3 hr hown (by rintro (e | e); cases e; exact k3 e)]
              exact AnsO.bad h' 613
      · skip
        refine W_region rfl ?_
        refine WL_is (X_loadA rfl rfl (by exact idx4) rfl rfl rfl) rfl rfl rfl ?_
        refine WL_is (X_loadA rfl rfl (by exact idx3) rfl rfl rfl) rfl rfl rfl ?_
        refine WL_is (X_callv rfl rfl rfl Try.func38 rfl (by assumption)) rfl rfl rfl ?_
        refine WL_is (X_move rfl rfl) rfl rfl rfl ?_
        refine WL_is (X_move rfl rfl) rfl rfl rfl ?_
        refine WL_is (X_geq_t rfl rfl rfl (by omega)) rfl rfl rfl ?_
        refine WL_is (X_pick_t rfl rfl rfl) rfl rfl rfl ?_
        refine WL_is (X_move rfl rfl) rfl rfl rfl ?_
        refine WL_is (X_move rfl rfl) rfl rfl rfl ?_
        refine WL_is (X_leq_f rfl rfl rfl (by omega)) rfl rfl rfl ?_
        refine WL_is (X_pick_t rfl rfl rfl) rfl rfl rfl ?_
        refine WL_callP rfl rfl rfl Try.func37 rfl rfl rfl rfl (unless_fn h false 622) (fun _ _ _ _ hA => by cases hA.1) (fun ch R' h' hl hA => ?_) (fun _ _ hA => hA)
        obtain ⟨_, rfl, rfl⟩ := hA
        simp only [List.nil_append]
        (repeat (first | refine Then_panic ?_))
        refine fin_pan dp_SetAcl Try.func35 rfl (List.Perm.swap _ _ _) ?_
        intro h' hl
        refine RetOk_vals (.cons (.cellA rfl idx0 rfl rfl rfl) (.cons (.cell1 rfl idx1 rfl rfl) .nil)) rfl (UpdE.sub (SubR.none _) ?_)
        rw [e1 (fun e => k2 e.2.2)]
        exact AnsO.bad h' 622
    · skip
      refine W_region rfl ?_
      refine WL_is (X_loadA rfl rfl (by exact idx4) rfl rfl rfl) rfl rfl rfl ?_
      refine WL_is (X_loadA rfl rfl (by exact idx3) rfl rfl rfl) rfl rfl rfl ?_
      refine WL_is (X_callv rfl rfl rfl Try.func38 rfl (by assumption)) rfl rfl rfl ?_
      refine WL_is (X_move rfl rfl) rfl rfl rfl ?_
      refine WL_is (X_move rfl rfl) rfl rfl rfl ?_
      refine WL_is (X_geq_f rfl rfl rfl (by omega)) rfl rfl rfl ?_
      refine WL_is (X_pick_t rfl rfl rfl) rfl rfl rfl ?_
      refine WL_is (X_move rfl rfl) rfl rfl rfl ?_
      refine WL_off rfl rfl rfl ?_
      refine WL_off rfl rfl rfl ?_
      refine WL_is (X_pick_f rfl rfl rfl) rfl rfl rfl ?_
      refine WL_callP rfl rfl rfl Try.func37 rfl rfl rfl rfl (unless_fn h false 622) (fun _ _ _ _ hA => by cases hA.1) (fun ch R' h' hl hA => ?_) (fun _ _ hA => hA)
      obtain ⟨_, rfl, rfl⟩ := hA
      simp only [List.nil_append]
      (repeat (first | refine Then_panic ?_))
      refine fin_pan dp_SetAcl Try.func35 rfl (List.Perm.swap _ _ _) ?_
      intro h' hl
      refine RetOk_vals (.cons (.cellA rfl idx0 rfl rfl rfl) (.cons (.cell1 rfl idx1 rfl rfl) .nil)) rfl (UpdE.sub (SubR.none _) ?_)
      rw [e1 (fun e => k1 e.2.1)]
      exact AnsO.bad h' 622
end Go.Proofs.Ytligadbnoiibnaa
