/- Who may turn attributes: another mode. -/
import Derived.Test.YtligadbnoiibnaaOwnerD
namespace Go.Proofs.Ytligadbnoiibnaa
set_option maxRecDepth 4000
open Go Go.Par PH
def AnsO (x : Int × Attr) (r : Value) (R' : List SL) (h' : PH) : Prop := (∃ v, r = .tuple #[v, .int .i64 x.1] ∧ AttrV h' v x.2) ∧ R' = []
theorem zeroV (h : PH) : AttrV h (.agg attrC0.toArray) attr0 := ⟨.slice none 0 0, .slice none 0 0, .slice none 0 0, .slice none 0 0, .slice none 0 0, rfl, Sl.nil, Sl.nil, Sl.nil, Sl.nil, Sl.nil⟩
theorem AnsO.bad (h : PH) (e : Int) : AnsO (e, attr0) (.tuple #[.agg attrC0.toArray, .int .i64 e]) [] h := ⟨⟨_, rfl, zeroV h⟩, rfl⟩
def Attr.moded (a : Attr) (mode : Int) : Attr := { a with bits := mode / 512 % 8, acc := a.acc.chmod mode }
def chmodO (c : Cred) (a : Attr) (kind mode : Int) : Int × Attr := if mayO c a = true then (if ownsO c a = true then (0, loseO c (a.moded mode) kind) else (601, attr0)) else (622, attr0)
attribute [local irreducible] W WL Does Exec Body Then inBlk RG WR row obj pblk
attribute [local irreducible] bits
theorem unless_t (h : PH) (e : Int) : Does Try.prog 37 [.bool true, .int .i64 e] [] h (Ret fun r _ _ => r = .tuple #[]) := by
  refine Does_of_W Try.func37 rfl (n := 9) rfl rfl (by simp only [argE, Nat.reduceAdd] <;> rfl) ?_
  (repeat (first | refine W_seq ?_))
  skip
  refine W_region rfl ?_
  refine WL_is (X_move rfl rfl) rfl rfl rfl ?_
  refine WL_is (X_not rfl rfl) rfl rfl rfl ?_
  (repeat (first | refine WL_nil ?_ | refine Then_normal ?_ | refine W_skip ?_ | refine W_false rfl ?_))
  refine Body_vals0 .nil rfl ?_
  exact UpdE.here rfl
set_option maxHeartbeats 2000000 in
theorem chmod13_fn (h : PH) (c : Cred) (cv : Value) (a : Attr) (v : Value) (kind mode : Int) (hc : CredV h cv c) (hcl : c.gs.length ≤ 1000) (hv : AttrV h v a) (hs : a.small) (hok : a.Ok) (hm : u16 mode) :
    Does Try.prog 21 [cv, v, .int .u8 kind, .int .u16 mode] [] h (Ret (AnsO (chmodO c a kind mode))) := by
  have m1 := may13_fn h c cv a v hc hv hs hok
  have m2 := owns_fn h c cv a v hc hv
  have hc' := hc
  have hv' := hv
  have hmb := hm
  unfold u16 at hmb
  have u1 := unless_t h 622
  have u2 := unless_t h 601
  obtain ⟨x, rfl, hx⟩ := hc
  obtain ⟨xa, xc, rfl⟩ := hx.shape
  obtain ⟨_, _, _, _, _, _, _, _, _, _, rfl⟩ := hv.shape
  unfold credV at m1 m2
  unfold attrS attrV at m1 m2
  unfold credV attrS attrV chmodO
  refine Does_of_WD Try.func21 rfl (n := 35) rfl rfl (by simp only [argE, Nat.reduceAdd] <;> rfl) ?_
  (repeat (first | refine W_seq ?_))
  refine W_region rfl ?_
  (refine WL_box rfl rfl rfl rfl rfl rfl ?_; intro b_)
  generalize b_ = cb
  (refine WL_box rfl rfl rfl rfl rfl rfl ?_; intro b_)
  generalize b_ = ab
  (refine WL_alloc rfl rfl rfl rfl rfl rfl ?_; intro b_)
  generalize b_ = xb
  (refine WL_alloc rfl rfl rfl rfl rfl rfl ?_; intro b_)
  (repeat (first | refine WL_nil ?_ | refine Then_normal ?_ | refine W_seq ?_))
  generalize b_ = eb
  skip
  refine W_region rfl ?_
  refine WL_is (X_makeFunc rfl rfl rfl) rfl rfl rfl ?_
  refine WL_defer rfl rfl rfl rfl ?_
  (repeat (first | refine WL_nil ?_ | refine Then_normal ?_ | refine W_seq ?_))
  cases hmay : mayO c a with
  | false =>
    rw [hmay] at m1
    skip
    refine W_region rfl ?_
    refine WL_is (X_loadA rfl rfl (by exact idx3) rfl rfl rfl) rfl rfl rfl ?_
    refine WL_is (X_loadA rfl rfl (by exact idx2) rfl rfl rfl) rfl rfl rfl ?_
    refine WL_is (X_callv rfl rfl rfl Try.func38 rfl (by assumption)) rfl rfl rfl ?_
    refine WL_callP rfl rfl rfl Try.func37 rfl rfl rfl rfl (unless_fn h false 622) (fun _ _ _ _ hA => by cases hA.1) (fun ch R' h' hl hA => ?_) (fun _ _ hA => hA)
    obtain ⟨_, rfl, rfl⟩ := hA
    simp only [List.nil_append]
    (repeat (first | refine Then_panic ?_))
    refine fin_pan dp_Chmod Try.func51 rfl (List.Perm.swap _ _ _) ?_
    intro h' hl
    refine RetOk_vals (.cons (.cellA rfl idx0 rfl rfl rfl) (.cons (.cell1 rfl idx1 rfl rfl) .nil)) rfl (UpdE.sub (SubR.none _) ?_)
    exact AnsO.bad h' 622
  | true =>
    rw [hmay] at m1
    cases hown : ownsO c a with
    | false =>
      rw [hown] at m2
      skip
      refine W_region rfl ?_
      refine WL_is (X_loadA rfl rfl (by exact idx3) rfl rfl rfl) rfl rfl rfl ?_
      refine WL_is (X_loadA rfl rfl (by exact idx2) rfl rfl rfl) rfl rfl rfl ?_
      refine WL_is (X_callv rfl rfl rfl Try.func38 rfl (by assumption)) rfl rfl rfl ?_
      refine WL_is (X_callv rfl rfl rfl Try.func37 rfl (by assumption)) rfl rfl rfl ?_
      (repeat (first | refine WL_nil ?_ | refine Then_normal ?_ | refine W_seq ?_))
      skip
      refine W_region rfl ?_
      refine WL_is (X_loadA rfl rfl (by exact idx3) rfl rfl rfl) rfl rfl rfl ?_
      refine WL_is (X_loadA rfl rfl (by exact idx2) rfl rfl rfl) rfl rfl rfl ?_
      refine WL_is (X_callv rfl rfl rfl Try.func39 rfl (by assumption)) rfl rfl rfl ?_
      refine WL_callP rfl rfl rfl Try.func37 rfl rfl rfl rfl (unless_fn h false 601) (fun _ _ _ _ hA => by cases hA.1) (fun ch R' h' hl hA => ?_) (fun _ _ hA => hA)
      obtain ⟨_, rfl, rfl⟩ := hA
      simp only [List.nil_append]
      (repeat (first | refine Then_panic ?_))
      refine fin_pan dp_Chmod Try.func51 rfl (List.Perm.swap _ _ _) ?_
      intro h' hl
      refine RetOk_vals (.cons (.cellA rfl idx0 rfl rfl rfl) (.cons (.cell1 rfl idx1 rfl rfl) .nil)) rfl (UpdE.sub (SubR.none _) ?_)
      exact AnsO.bad h' 601
    | true =>
      rw [hown] at m2
      skip
      refine W_region rfl ?_
      refine WL_is (X_loadA rfl rfl (by exact idx3) rfl rfl rfl) rfl rfl rfl ?_
      refine WL_is (X_loadA rfl rfl (by exact idx2) rfl rfl rfl) rfl rfl rfl ?_
      refine WL_is (X_callv rfl rfl rfl Try.func38 rfl (by assumption)) rfl rfl rfl ?_
      refine WL_is (X_callv rfl rfl rfl Try.func37 rfl (by assumption)) rfl rfl rfl ?_
      (repeat (first | refine WL_nil ?_ | refine Then_normal ?_ | refine W_seq ?_))
      skip
      refine W_region rfl ?_
      refine WL_is (X_loadA rfl rfl (by exact idx3) rfl rfl rfl) rfl rfl rfl ?_
      refine WL_is (X_loadA rfl rfl (by exact idx2) rfl rfl rfl) rfl rfl rfl ?_
      refine WL_is (X_callv rfl rfl rfl Try.func39 rfl (by assumption)) rfl rfl rfl ?_
      refine WL_is (X_callv rfl rfl rfl Try.func37 rfl (by assumption)) rfl rfl rfl ?_
      (repeat (first | refine WL_nil ?_ | refine Then_normal ?_ | refine W_seq ?_))
      skip
      refine W_region rfl ?_
      refine WL_is (X_loadA rfl rfl (by exact idx2) rfl rfl rfl) rfl rfl rfl ?_
      refine WL_call rfl rfl rfl Try.func41 rfl rfl rfl rfl (attrCopyK_fn h a _ hv' hs) ?_
      rintro _ _ H1 L1 ⟨hA, rfl⟩
      obtain ⟨U, G, U2, G2, X, rfl, s1, s2, s3, s4, s5⟩ := hA
      obtain ⟨_, _, rfl⟩ := s1.shape
      obtain ⟨_, _, rfl⟩ := s2.shape
      obtain ⟨_, _, rfl⟩ := s3.shape
      obtain ⟨_, _, rfl⟩ := s4.shape
      obtain ⟨_, _, rfl⟩ := s5.shape
      simp only [List.nil_append]
      unfold attrV
      refine WL_store rfl rfl rfl (by exact idx1) rfl rfl rfl rfl rfl rfl rfl rfl rfl ?_
      (repeat (first | refine WL_nil ?_ | refine Then_normal ?_ | refine W_seq ?_))
      skip
      refine W_region rfl ?_
      refine WL_is (X_move rfl rfl) rfl rfl rfl ?_
      refine WL_is (X_shrW rfl rfl rfl (by omega) (by decide) (by simp only [Int.reduceToNat, Int.reducePow] <;> rfl)) rfl rfl rfl ?_
      refine WL_is (X_andW (k := .u16) rfl rfl rfl (by exact u16_and7 _ (by omega) (by omega))) rfl rfl rfl ?_
      refine WL_is (X_convW rfl rfl rfl rfl (by exact wrap_u8_in (by omega) (by omega))) rfl rfl rfl ?_
      refine WL_is (X_fieldAddr rfl rfl rfl (by simp only [Nat.zero_add] <;> rfl)) rfl rfl rfl ?_
      refine WL_store rfl rfl rfl (by exact idx1) rfl rfl rfl rfl rfl rfl rfl rfl rfl ?_
      (repeat (first | refine WL_nil ?_ | refine Then_normal ?_ | refine W_seq ?_))
      skip
      refine W_region rfl ?_
      refine WL_is (X_fieldAddr rfl rfl rfl (by simp only [Nat.zero_add] <;> rfl)) rfl rfl rfl ?_
      refine WL_is (X_loadA rfl rfl (by exact idx2) rfl rfl rfl) rfl rfl rfl ?_
      refine WL_is (X_move rfl rfl) rfl rfl rfl ?_
      have hv1 := hv'.mono L1
      obtain ⟨_, _, _, _, _, e0, t1, t2, _, _, _⟩ := hv1
      unfold attrS attrV at e0
      injection e0 with e0
      injection e0 with e0
      simp only [List.cons.injEq, true_and] at e0
      obtain ⟨rfl, rfl, _, _, _, _⟩ := e0
      refine WL_call rfl rfl rfl Try.func52 rfl rfl rfl rfl (chmodK_fn (h := H1) (a := a.acc) (b := mode) ⟨_, _, rfl, t1, t2⟩ hs.acc hm) ?_
      rintro _ _ H2 L2 ⟨⟨V, F, rfl, r1, r2⟩, rfl⟩
      obtain ⟨va, vc, rfl⟩ := r1.shape
      obtain ⟨fa, fc, rfl⟩ := r2.shape
      simp only [List.nil_append, aclV]
      refine WL_is (X_fieldAddr rfl rfl rfl (by simp only [Nat.zero_add] <;> rfl)) rfl rfl rfl ?_
      refine WL_store rfl rfl rfl (by exact idx1) rfl rfl rfl rfl rfl rfl rfl rfl rfl ?_
      (repeat (first | refine WL_nil ?_ | refine Then_normal ?_ | refine W_seq ?_))
      skip
      refine W_region rfl ?_
      refine WL_is (X_loadA rfl rfl (by exact idx3) rfl rfl rfl) rfl rfl rfl ?_
      refine WL_is (X_move rfl rfl) rfl rfl rfl ?_
      refine WL_callR [_] _ rfl rfl rfl Try.func43 rfl rfl rfl rfl (perm_front 1 rfl) (lose_fn H2 c _ (a.moded mode) kind xb _ _ _ _ _ (hc'.mono (L1.trans L2)) hcl) ?_
      rintro _ _ H3 L3 rfl
      simp only [List.cons_append, List.nil_append, List.eraseIdx_cons_zero]
      (repeat (first | refine WL_nil ?_ | refine Then_normal ?_ | refine W_seq ?_))
      skip
      refine W_region rfl ?_
      refine WL_is (X_loadA rfl rfl (by exact idx0) rfl rfl rfl) rfl rfl rfl ?_
      refine WL_store rfl rfl rfl (by exact idx0) rfl rfl rfl rfl rfl rfl rfl rfl rfl ?_
      refine WL_store rfl rfl rfl (by exact idx1) rfl rfl rfl rfl rfl rfl rfl rfl rfl ?_
      (repeat (first | refine WL_nil ?_ | refine Then_normal ?_ | refine W_ret ?_))
      refine fin_ret dn_Chmod Try.func51 rfl ?_
      intro h' hl
      refine RetOk_vals (.cons (.cellA rfl (by exact idx0) rfl rfl rfl) (.cons (.cell1 rfl (by exact idx1) rfl rfl) .nil)) rfl (UpdE.sub (SubR.none _) ?_)
      have LL := L3.trans hl
      exact ⟨⟨_, rfl, _, _, _, _, _, rfl, r1.mono LL, r2.mono LL, s3.mono (L2.trans LL), s4.mono (L2.trans LL), s5.mono (L2.trans LL)⟩, rfl⟩
end Go.Proofs.Ytligadbnoiibnaa
