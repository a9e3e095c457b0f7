/- Attributes: which are the same, copies, modes, and which are too large to be looked at. -/
import Derived.Test.YtakdjabamjgcfaaAttrC
import Derived.Test.YtakdjabamjgcfaaAclG
namespace Go.Proofs.Ytakdjabamjgcfaa
set_option maxRecDepth 4000
open Go Go.Par PH
deriving instance DecidableEq for Attr
theorem elemX : ElemT Try.prog 22 42 2 32 := ElemT.mk' rfl rfl
attribute [local irreducible] W WL Does Exec Body Then inBlk RG WR row obj pblk
set_option maxHeartbeats 400000 in
theorem sameX_ref (h : PH) (l m : List (ByteArray × ByteArray)) (v u : Value) (hv : Sl encX 2 h v l) (hu : Sl encX 2 h u m) (hl : l.length ≤ 1000000) (hm : m.length ≤ 1000000) :
    Does Try.prog 11 [v, u] [] h (Ret fun r _ _ => r = .bool (decide (l = m))) := by
  refine Does_of_W Try.func11 rfl (n := 26) rfl rfl (by simp only [argE, Nat.reduceAdd] <;> rfl) ?_
  by_cases hlen : l.length = m.length
  · (repeat (first | refine W_seq ?_))
    refine W_region rfl ?_
    refine WL_is (X_assign rfl rfl) rfl rfl rfl ?_
    (repeat (first | refine WL_nil ?_ | refine Then_normal ?_ | refine W_seq ?_))
    skip
    refine W_region rfl ?_
    refine WL_is (X_move rfl rfl) rfl rfl rfl ?_
    refine WL_is (X_len_sl rfl rfl rfl (by assumption)) rfl rfl rfl ?_
    refine WL_is (X_move rfl rfl) rfl rfl rfl ?_
    refine WL_is (X_len_sl rfl rfl rfl (by assumption)) rfl rfl rfl ?_
    refine WL_is (X_neq_f rfl rfl rfl (by omega)) rfl rfl rfl ?_
    (repeat (first | refine WL_nil ?_ | refine Then_normal ?_ | refine W_seq ?_ | refine W_skip ?_ | refine W_false rfl ?_))
    skip
    refine W_region rfl ?_
    refine WL_is (X_assign rfl rfl) rfl rfl rfl ?_
    (repeat (first | refine WL_nil ?_ | refine Then_normal ?_ | refine W_block ?_))
    refine W_loop (X := Nat) (L := fun k => ⟨[(5, .int .i64 (k : Int)), (0, v), (1, u)], [], [], h⟩) (p := fun k => k ≤ l.length ∧ ∀ j (hj : j < k) (hj' : j < l.length), l[j] = m[j]'(by omega)) (μ := fun k => l.length - k) 0 ⟨(by repeat (first | exact SubE_nil | refine SubE_cons rfl ?_)), rfl, SubR.refl _, rfl⟩ ⟨Nat.zero_le _, fun j hj => by omega⟩ ?_
    rintro k ⟨hk, hgood⟩
    by_cases hlt : k < l.length
    · have hlt' : k < m.length := by omega
      (repeat (first | refine W_seq ?_))
      refine W_region rfl ?_
      refine WL_is (X_move rfl rfl) rfl rfl rfl ?_
      refine WL_is (X_move rfl rfl) rfl rfl rfl ?_
      refine WL_is (X_len_sl rfl rfl rfl (by assumption)) rfl rfl rfl ?_
      refine WL_is (X_lss_t rfl rfl rfl (by omega)) rfl rfl rfl ?_
      (repeat (first | refine WL_nil ?_ | refine Then_normal ?_ | refine W_seq ?_ | refine W_skip ?_ | refine W_block ?_ | refine W_true rfl ?_))
      by_cases heq : l[k] = m[k]
      · have e1 : l[k].1 = m[k].1 := by rw [heq]
        have e2 : l[k].2 = m[k].2 := by rw [heq]
        have E1 : (!(l[k].1 == m[k].1 && (l[k].2 == m[k].2 && true))) = false := by rw [e1, e2, beqB, beqB]; rfl
        clear e1 e2
        skip
        refine W_draw0 8 rfl rfl rfl rfl ?_
        refine RG_val rfl rfl (fun _ => rfl) (fun _ => X_move rfl rfl) ?_
        refine RG_val rfl rfl (fun _ => rfl) (fun _ => X_move rfl rfl) ?_
        (refine RG_index_slN rfl rfl rfl (fun _ => rfl) (fun _ => rfl) (by assumption) (by omega) rfl rfl (fun _ => rfl) ?_; intro p_ hp_)
        refine RG_val rfl rfl (fun _ => rfl) (fun _ => X_loadA_at rfl rfl (by assumption) rfl rfl rfl) ?_
        refine RG_val rfl rfl (fun _ => rfl) (fun _ => X_move rfl rfl) ?_
        refine RG_val rfl rfl (fun _ => rfl) (fun _ => X_move rfl rfl) ?_
        (refine RG_index_slN rfl rfl rfl (fun _ => rfl) (fun _ => rfl) (by assumption) (by omega) rfl rfl (fun _ => rfl) ?_; intro p_ hp_)
        refine RG_val rfl rfl (fun _ => rfl) (fun _ => X_loadA_at rfl rfl (by assumption) rfl rfl rfl) ?_
        refine RG_nil ?_
        refine RG_endv rfl (fun vs => by simp only [endE, List.cons_append, List.nil_append] <;> rfl) (fun vs => rfl) ?_
        refine WL_is (X_neA 8 heldOk guardOk rfl rfl rfl rfl rfl rfl rfl) rfl rfl rfl ?_
        (repeat (first | refine WL_nil ?_ | refine Then_normal ?_))
        rw [E1]
        (repeat (first | refine Then_normal ?_ | refine W_skip ?_ | refine inBlk_normal ?_ | refine W_false rfl ?_))
        refine W_region rfl ?_
        refine WL_is (X_move rfl rfl) rfl rfl rfl ?_
        refine WL_is (X_addW rfl rfl rfl (by exact wrap_i64_in (by omega) (by omega))) rfl rfl rfl ?_
        refine WL_is (X_assign rfl rfl) rfl rfl rfl ?_
        (repeat (first | refine WL_nil ?_ | refine Then_normal ?_))
        refine ⟨k + 1, ⟨(by repeat (first | exact SubE_nil | refine SubE_cons rfl ?_)), rfl, SubR.refl _, rfl⟩, ⟨by omega, fun j hj hj' => ?_⟩, by omega⟩
        rcases Nat.lt_or_ge j k with hj2 | hj2
        · exact hgood j hj2 hj'
        · have : j = k := by omega
          subst this; exact heq
      · have E1 : (!(l[k].1 == m[k].1 && (l[k].2 == m[k].2 && true))) = true := by
          simp only [Bool.and_true, Bool.not_eq_true']
          cases hb : (l[k].1 == m[k].1 && l[k].2 == m[k].2) with
          | false => rfl
          | true =>
            simp only [Bool.and_eq_true] at hb
            exact absurd (Prod.ext (ByteArray.ext (eq_of_beq (α := Array UInt8) hb.1)) (ByteArray.ext (eq_of_beq (α := Array UInt8) hb.2))) heq
        skip
        refine W_draw0 8 rfl rfl rfl rfl ?_
        refine RG_val rfl rfl (fun _ => rfl) (fun _ => X_move rfl rfl) ?_
        refine RG_val rfl rfl (fun _ => rfl) (fun _ => X_move rfl rfl) ?_
        (refine RG_index_slN rfl rfl rfl (fun _ => rfl) (fun _ => rfl) (by assumption) (by omega) rfl rfl (fun _ => rfl) ?_; intro p_ hp_)
        refine RG_val rfl rfl (fun _ => rfl) (fun _ => X_loadA_at rfl rfl (by assumption) rfl rfl rfl) ?_
        refine RG_val rfl rfl (fun _ => rfl) (fun _ => X_move rfl rfl) ?_
        refine RG_val rfl rfl (fun _ => rfl) (fun _ => X_move rfl rfl) ?_
        (refine RG_index_slN rfl rfl rfl (fun _ => rfl) (fun _ => rfl) (by assumption) (by omega) rfl rfl (fun _ => rfl) ?_; intro p_ hp_)
        refine RG_val rfl rfl (fun _ => rfl) (fun _ => X_loadA_at rfl rfl (by assumption) rfl rfl rfl) ?_
        refine RG_nil ?_
        refine RG_endv rfl (fun vs => by simp only [endE, List.cons_append, List.nil_append] <;> rfl) (fun vs => rfl) ?_
        refine WL_is (X_neA 8 heldOk guardOk rfl rfl rfl rfl rfl rfl rfl) rfl rfl rfl ?_
        (repeat (first | refine WL_nil ?_ | refine Then_normal ?_))
        rw [E1]
        (repeat (first | refine W_seq ?_ | refine W_true rfl ?_))
        refine W_region rfl ?_
        refine WL_is (X_assign rfl rfl) rfl rfl rfl ?_
        (repeat (first | refine WL_nil ?_ | refine Then_normal ?_ | refine W_ret ?_ | refine Then_ret ?_ | refine inBlk_ret ?_))
        refine Body_end rfl rfl rfl (SubR.none _) ?_
        rw [decide_eq_false]; intro hc; subst hc; exact heq rfl
    · (repeat (first | refine W_seq ?_))
      refine W_region rfl ?_
      refine WL_is (X_move rfl rfl) rfl rfl rfl ?_
      refine WL_is (X_move rfl rfl) rfl rfl rfl ?_
      refine WL_is (X_len_sl rfl rfl rfl (by assumption)) rfl rfl rfl ?_
      refine WL_is (X_lss_f rfl rfl rfl (by omega)) rfl rfl rfl ?_
      (repeat (first | refine WL_nil ?_ | refine Then_normal ?_ | refine W_seq ?_ | refine W_exit ?_ | refine Then_exit ?_ | refine inBlk_here ?_ | refine W_false rfl ?_))
      skip
      refine W_region rfl ?_
      refine WL_is (X_assign rfl rfl) rfl rfl rfl ?_
      (repeat (first | refine WL_nil ?_ | refine Then_normal ?_ | refine W_ret ?_))
      refine Body_end rfl rfl rfl (SubR.none _) ?_
      have hkl : k = l.length := by omega
      subst hkl
      rw [decide_eq_true (List.ext_getElem hlen fun i hi _ => hgood i hi hi)]
  · (repeat (first | refine W_seq ?_))
    refine W_region rfl ?_
    refine WL_is (X_assign rfl rfl) rfl rfl rfl ?_
    (repeat (first | refine WL_nil ?_ | refine Then_normal ?_ | refine W_seq ?_))
    skip
    refine W_region rfl ?_
    refine WL_is (X_move rfl rfl) rfl rfl rfl ?_
    refine WL_is (X_len_sl rfl rfl rfl (by assumption)) rfl rfl rfl ?_
    refine WL_is (X_move rfl rfl) rfl rfl rfl ?_
    refine WL_is (X_len_sl rfl rfl rfl (by assumption)) rfl rfl rfl ?_
    refine WL_is (X_neq_t rfl rfl rfl (by omega)) rfl rfl rfl ?_
    (repeat (first | refine WL_nil ?_ | refine Then_normal ?_ | refine W_seq ?_ | refine W_true rfl ?_))
    skip
    refine W_region rfl ?_
    refine WL_is (X_assign rfl rfl) rfl rfl rfl ?_
    (repeat (first | refine WL_nil ?_ | refine Then_normal ?_ | refine W_ret ?_ | refine Then_ret ?_))
    refine Body_end rfl rfl rfl (SubR.none _) ?_
    rw [decide_eq_false]; intro hc; subst hc; exact hlen rfl
theorem attr_ne {a b : Attr} (f : Attr → Prop) (h1 : f a) (h2 : ¬ f b) : decide (a = b) = false := decide_eq_false fun e => h2 (e ▸ h1)
def shortX (l : List (ByteArray × ByteArray)) (i : Nat) : Bool := if hi : i < l.length then decide (l[i].1.size ≤ 100) && decide (l[i].2.size ≤ 100) else true
def Acl.large (a : Acl) : Prop := 100 < a.us.length ∨ 100 < a.gs.length
instance (a : Acl) : Decidable a.large := by unfold Acl.large; infer_instance
structure Attr.tame (a : Attr) : Prop where
  acc : ¬ a.acc.large
  df : ¬ a.df.large
  xs : a.xs.length ≤ 40
  ks : ∀ x ∈ a.xs, x.1.size ≤ 100 ∧ x.2.size ≤ 100
theorem Acl.small_of {a : Acl} (h : ¬ a.large) : a.small := by unfold Acl.large at h; unfold Acl.small; omega
theorem Attr.tame.small {a : Attr} (h : a.tame) : a.small := ⟨Acl.small_of h.acc, Acl.small_of h.df, by have := h.xs; omega, fun x hx => by have := (h.ks x hx).1; omega⟩
/-- Large, or not: and then it is tame. -/
def LargeB (b : Bool) (a : Attr) : Prop := b = false → a.tame
def Attr.mode (a : Attr) : Int := a.bits % 8 * 512 + a.acc.bits
end Go.Proofs.Ytakdjabamjgcfaa
