/- Access lists: the law on lists of one's own. -/
import Derived.Test.YteblocppjloggaaAclN
import Derived.Test.YteblocppjloggaaEngB
namespace Go.Proofs.Yteblocppjloggaa
open Go Go.Par PH
attribute [local irreducible] W WL Does Exec Body Then inBlk RG WR row obj pblk
def ownR (a : Acl) : Value → List SL
  | .agg cs => (match cs.toList with
    | [_, _, _, u, g, _, _] => [rowL encN u 40 2 a.us, rowL encN g 40 2 a.gs]
    | _ => [])
  | _ => []
def shaped (a : Acl) (r : Value) : Prop := ∃ a1 c1 a2 c2, r = aclV a (.slice a1 a.us.length c1) (.slice a2 a.gs.length c2)
theorem owns_R {r : Value} {R : List SL} {a : Acl} (h : owns r R a) : shaped a r ∧ R = ownR a r := by
  obtain ⟨a1, c1, a2, c2, rfl, rfl⟩ := h
  exact ⟨⟨a1, c1, a2, c2, rfl⟩, rfl⟩
theorem spoilK (h : PH) (a : Acl) (v : Value) (R : List SL) (ho : owns v R a) (hs : a.small) : Does Try.prog 22 [v] R h (Ret fun _ R' _ => R' = []) :=
  (spoil_fn h a v R ho hs).upd fun _ _ _ _ _ => UpdE.sub (SubR.none _) rfl
/-- A list of one's own, lent to be looked at. -/
theorem same_lent (h : PH) (a b : Acl) (v w : Value) (R : List SL) (ho : owns v R a) (hw : AclV h w b) (hs : a.small) (ht : b.small) : Does Try.prog 14 [v, w] R h (Ret fun r R' _ => r = .bool (decide (a = b)) ∧ R' = R) := by
  refine (Does.borrow (A := fun v _ => v = .bool (decide (a = b))) ?_).upd fun v R' h' _ ⟨R1, e, hv⟩ => UpdE.sub (R1 := R) ⟨R1, by rw [e]⟩ ⟨hv, rfl⟩
  intro g hg hle
  have hle2 : le h (un h g) := le_un_left _ _
  obtain ⟨a1, c1, a2, c2, rfl, rfl⟩ := ho
  obtain ⟨g1, g2, rfl, hd, r1, g3, g4, rfl, hd2, r2, r3⟩ := hg
  have hA : AclV (un h (un g1 (un g3 g4))) (aclV a (.slice a1 a.us.length c1) (.slice a2 a.gs.length c2)) a :=
    ⟨_, _, rfl, Sl_of_row r1 ((le_un_left _ _).trans hle) (lenN _), Sl_of_row r2 (((le_un_left _ _).trans (le_un_right hd)).trans hle) (lenN _)⟩
  exact same_acl_ref _ _ _ _ _ hA (hw.mono hle2) hs ht

set_option maxHeartbeats 2000000 in
theorem own_law (h : PH) (a : Acl) (b : Int) (v : Value) (hA : AclV h v a) (okA : a.Ok) (hb : u16 b) : Does Try.prog 6 [v, .int .u16 b] [] h (Ret fun r _ _ => r = .bool true) := by
  have l1 := large_fn h a v hA
  have al := alive_fn h
  have hA' := hA
  obtain ⟨u, g, rfl, hu, hg⟩ := hA'
  refine Does_of_W Try.func6 rfl (n := 40) rfl rfl (by simp only [argE, Nat.reduceAdd] <;> rfl) ?_
  by_cases c1 : a.big
  · rw [decide_eq_true (by exact c1)] at l1
    (repeat (first | refine W_seq ?_))
    skip
    refine W_region rfl ?_
    (refine WL_box rfl rfl rfl rfl rfl rfl ?_; intro b_)
    refine WL_is (X_assign rfl rfl) rfl rfl rfl ?_
    (repeat (first | refine WL_nil ?_ | refine Then_normal ?_ | refine W_seq ?_))
    skip
    refine W_region rfl ?_
    refine WL_is (X_loadA rfl rfl (by exact idx0) rfl rfl rfl) rfl rfl rfl ?_
    refine WL_is (X_callv rfl rfl rfl Try.func8 rfl (by assumption)) rfl rfl rfl ?_
    (repeat (first | refine WL_nil ?_ | refine Then_normal ?_ | refine W_seq ?_ | refine W_true rfl ?_))
    skip
    refine W_region rfl ?_
    refine WL_is (X_callv rfl rfl rfl Try.func9 rfl (by assumption)) rfl rfl rfl ?_
    refine WL_is (X_assign rfl rfl) rfl rfl rfl ?_
    (repeat (first | refine WL_nil ?_ | refine Then_normal ?_ | refine W_ret ?_ | refine Then_ret ?_))
    refine Body_end rfl rfl rfl (SubR.none _) ?_
    rfl
  · rw [decide_eq_false (by exact c1)] at l1
    have s1 := Acl.small_of c1
    have s2 := Acl.chmod_small b s1
    (repeat (first | refine W_seq ?_))
    skip
    refine W_region rfl ?_
    (refine WL_box rfl rfl rfl rfl rfl rfl ?_; intro b_)
    refine WL_is (X_assign rfl rfl) rfl rfl rfl ?_
    (repeat (first | refine WL_nil ?_ | refine Then_normal ?_ | refine W_seq ?_))
    skip
    refine W_region rfl ?_
    refine WL_is (X_loadA rfl rfl (by exact idx0) rfl rfl rfl) rfl rfl rfl ?_
    refine WL_is (X_callv rfl rfl rfl Try.func8 rfl (by assumption)) rfl rfl rfl ?_
    (repeat (first | refine WL_nil ?_ | refine Then_normal ?_ | refine W_seq ?_ | refine W_skip ?_ | refine W_false rfl ?_))
    skip
    refine W_region rfl ?_
    refine WL_is (X_loadA rfl rfl (by exact idx0) rfl rfl rfl) rfl rfl rfl ?_
    refine WL_call rfl rfl rfl Try.func12 rfl rfl rfl rfl (copyK_ref hA s1) ?_
    rintro r R' h2 hl2 ⟨⟨u2, g2, rfl, hu2, hg2⟩, rfl⟩
    have hO : AclV h2 (aclV a u2 g2) a := ⟨u2, g2, rfl, hu2, hg2⟩
    obtain ⟨a2, c2, rfl⟩ := hu2.shape
    obtain ⟨a3, c3, rfl⟩ := hg2.shape
    replace hA := hA.mono hl2
    simp only [aclV, List.nil_append] at *
    (refine WL_alloc rfl rfl rfl rfl rfl rfl ?_; intro b_)
    refine WL_store rfl rfl rfl (by exact idx0) rfl rfl rfl rfl rfl rfl rfl rfl rfl ?_
    (repeat (first | refine WL_nil ?_ | refine Then_normal ?_ | refine W_seq ?_))
    skip
    refine W_draw0 7 rfl rfl rfl rfl ?_
    refine RG_val rfl rfl (fun _ => rfl) (fun _ => X_loadA rfl rfl (by exact idx0) rfl rfl rfl) ?_
    refine RG_call (.opq (fun v _ => shaped a v) [] (ownR a)) [] _ (fun _ _ _ _ h => h) rfl (fun _ => rfl) (fun _ => rfl) Try.func15 rfl rfl rfl (fun _ => rfl) (.refl _) (fun vs h' hl _ => (copy_fn h' a _ (hO.mono hl) s1).wkn (fun v R' h'' _ h => by obtain ⟨x, rfl⟩ := owns_R h; exact ⟨x, [], by simp [Sp.O]⟩)) ?_
    refine RG_val rfl rfl (fun _ => rfl) (fun _ => X_loadA rfl rfl (by exact idx0) rfl rfl rfl) ?_
    refine RG_val rfl rfl (fun _ => rfl) (fun _ => X_move rfl rfl) ?_
    refine RG_call (.opq (fun v _ => shaped (a.chmod b) v) [] (ownR (a.chmod b))) [] _ (fun _ _ _ _ h => h) rfl (fun _ => rfl) (fun _ => rfl) Try.func16 rfl rfl rfl (fun _ => rfl) (.refl _) (fun vs h' hl _ => (chmod_fn h' a _ b (hO.mono hl) s1 hb).wkn (fun v R' h'' _ h => by obtain ⟨x, rfl⟩ := owns_R h; exact ⟨x, [], by simp [Sp.O]⟩)) ?_
    refine RG_alloc rfl rfl rfl rfl rfl (fun _ => rfl) ?_
    refine RG_alloc rfl rfl rfl rfl rfl (fun _ => rfl) ?_
    refine RG_nil ?_
    refine RG_end rfl (fun vs => by simp only [endE, List.cons_append, List.nil_append] <;> rfl) (fun vs => by simp only [endR, List.cons_append, List.nil_append, List.append_nil] <;> rfl) (fun vs h' hf => hf) ?_
    rintro vs h3 hl3 hF
    simp only [endF, Nat.zero_add, Nat.reduceAdd] at hF
    obtain ⟨⟨p6, e6⟩, ⟨p5, e5⟩, ⟨d1, k1, d2, k2, e4⟩, ⟨d3, k3, d4, k4, e1⟩, -⟩ := hF
    simp only [Nat.zero_add, Nat.reduceAdd, e6, e5, e4, e1, ownR, aclV, List.cons_append, List.nil_append]
    clear e6 e5 e4 e1
    refine WL_updE (UpdE.pblk 0 rfl) ?_
    rintro _ h3 - ⟨rfl, q6, e6, rfl⟩
    refine WL_updE (UpdE.pblk 1 rfl) ?_
    rintro _ h3 - ⟨rfl, q5, e5, rfl⟩
    cases e6; cases e5
    simp only [List.set_cons_zero, List.set_cons_succ]
    replace hA := hA.mono hl3
    replace hO := hO.mono hl3
    refine WL_store rfl rfl rfl (by exact idx1) rfl rfl rfl rfl rfl rfl rfl rfl rfl ?_
    refine WL_store rfl rfl rfl (by exact idx0) rfl rfl rfl rfl rfl rfl rfl rfl rfl ?_
    (repeat (first | refine WL_nil ?_ | refine Then_normal ?_ | refine W_seq ?_))
    skip
    refine W_region rfl ?_
    refine WL_is (X_loadA rfl rfl (by exact idx1) rfl rfl rfl) rfl rfl rfl ?_
    refine WL_callR [rowL encN (.slice d3 a.us.length k3) 40 2 a.us, rowL encN (.slice d4 a.gs.length k4) 40 2 a.gs] _ rfl rfl rfl Try.func22 rfl rfl rfl rfl ((perm_front 4 rfl).trans ((perm_front 4 rfl).cons _)) (spoilK h3 a _ _ ⟨d3, k3, d4, k4, rfl, rfl⟩ s1) ?_
    rintro r R' h4 hl4 rfl
    simp only [List.nil_append, List.eraseIdx_cons_succ, List.eraseIdx_cons_zero]
    replace hA := hA.mono hl4
    replace hO := hO.mono hl4
    have al4 := alive_fn h4
    have e1 := same_acl_ref h4 a a _ _ hO hA s1 s1
    rw [decide_eq_true rfl] at e1
    (repeat (first | refine WL_nil ?_ | refine Then_normal ?_ | refine W_seq ?_))
    skip
    refine W_draw0 9 rfl rfl rfl rfl ?_
    refine RG_val rfl rfl (fun _ => rfl) (fun _ => X_loadA rfl rfl (by exact idx4) rfl rfl rfl) ?_
    refine RG_val rfl rfl (fun _ => rfl) (fun _ => X_loadA rfl rfl (by exact idx5) rfl rfl rfl) ?_
    refine RG_val rfl rfl (fun _ => rfl) (fun _ => X_callv rfl rfl rfl Try.func14 rfl (by assumption)) ?_
    refine RG_val rfl rfl (fun _ => rfl) (fun _ => X_not rfl rfl) ?_
    refine RG_val rfl rfl (fun _ => rfl) (fun _ => X_move rfl rfl) ?_
    refine RG_val rfl rfl (fun _ => rfl) (fun _ => X_loadA rfl rfl (by exact idx0) rfl rfl rfl) ?_
    refine RG_val rfl rfl (fun _ => rfl) (fun _ => X_loadA rfl rfl (by exact idx5) rfl rfl rfl) ?_
    refine RG_val rfl rfl (fun _ => rfl) (fun _ => X_move rfl rfl) ?_
    refine RG_callo (fun v h' => AclV h' v (a.chmod b)) (fun _ _ _ hl h => h.mono hl) rfl (fun _ => rfl) (fun _ => rfl) Try.func21 rfl rfl rfl (fun _ => rfl) (fun vs h' hl _ => (chmodK_ref (hA.mono hl) s1 hb).wkn (fun _ _ _ _ h => h.1)) ?_
    refine RG_nil ?_
    refine RG_end rfl (fun vs => by simp only [endE, List.cons_append, List.nil_append] <;> rfl) (fun vs => by simp only [endR, List.nil_append, List.append_nil] <;> rfl) (fun vs h' hf => hf) ?_
    rintro vs h5 hl5 hF
    simp only [endF, Nat.zero_add, Nat.reduceAdd] at hF
    have hB : AclV h5 (vs 8) (a.chmod b) := hF.1
    clear hF
    replace hA := hA.mono hl5
    replace hO := hO.mono hl5
    have e2 := same_lent h5 (a.chmod b) (a.chmod b) _ _ _ ⟨d1, k1, d2, k2, rfl, rfl⟩ hB s2 s2
    rw [decide_eq_true rfl] at e2
    refine WL_callR [rowL encN (.slice d1 (a.chmod b).us.length k1) 40 2 (a.chmod b).us, rowL encN (.slice d2 (a.chmod b).gs.length k2) 40 2 (a.chmod b).gs] _ rfl rfl rfl Try.func14 rfl rfl rfl rfl ((perm_front 2 rfl).trans ((perm_front 2 rfl).cons _)) e2 ?_
    rintro r R' h6 hl6 ⟨rfl, rfl⟩
    simp only [List.cons_append, List.nil_append, List.eraseIdx_cons_succ, List.eraseIdx_cons_zero]
    replace hA := hA.mono hl6
    replace hO := hO.mono hl6
    refine WL_is (X_not rfl rfl) rfl rfl rfl ?_
    refine WL_is (X_pick_f rfl rfl rfl) rfl rfl rfl ?_
    (repeat (first | refine WL_nil ?_ | refine Then_normal ?_ | refine W_seq ?_ | refine W_skip ?_ | refine W_false rfl ?_))
    skip
    refine W_region rfl ?_
    refine WL_is (X_loadA rfl rfl (by exact idx2) rfl rfl rfl) rfl rfl rfl ?_
    refine WL_callR [rowL encN (.slice d1 (a.chmod b).us.length k1) 40 2 (a.chmod b).us, rowL encN (.slice d2 (a.chmod b).gs.length k2) 40 2 (a.chmod b).gs] _ rfl rfl rfl Try.func22 rfl rfl rfl rfl (.refl _) (spoilK h6 _ _ _ ⟨d1, k1, d2, k2, rfl, rfl⟩ s2) ?_
    rintro r R' h7 hl7 rfl
    replace hA := hA.mono hl7
    replace hO := hO.mono hl7
    have al7 := alive_fn h7
    have e7 := same_acl_ref h7 a a _ _ hO hA s1 s1
    rw [decide_eq_true rfl] at e7
    (repeat (first | refine WL_nil ?_ | refine Then_normal ?_ | refine W_seq ?_))
    skip
    refine W_region rfl ?_
    refine WL_is (X_loadA rfl rfl (by exact idx2) rfl rfl rfl) rfl rfl rfl ?_
    refine WL_is (X_loadA rfl rfl (by exact idx3) rfl rfl rfl) rfl rfl rfl ?_
    refine WL_is (X_callv rfl rfl rfl Try.func14 rfl (by assumption)) rfl rfl rfl ?_
    refine WL_is (X_move rfl rfl) rfl rfl rfl ?_
    refine WL_is (X_callv rfl rfl rfl Try.func9 rfl (by assumption)) rfl rfl rfl ?_
    refine WL_is (X_pick_t rfl rfl rfl) rfl rfl rfl ?_
    refine WL_is (X_assign rfl rfl) rfl rfl rfl ?_
    (repeat (first | refine WL_nil ?_ | refine Then_normal ?_ | refine W_ret ?_))
    refine Body_end rfl rfl rfl (SubR.none _) ?_
    rfl
end Go.Proofs.Yteblocppjloggaa
