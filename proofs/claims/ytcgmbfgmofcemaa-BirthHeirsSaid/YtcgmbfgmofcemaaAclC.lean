/- Access lists: bits, copies, lists with other bits. -/
import Derived.Test.YtcgmbfgmofcemaaAclB
namespace Go.Proofs.Ytcgmbfgmofcemaa
set_option maxRecDepth 4000
open Go Go.Par PH


attribute [local irreducible] W WL Does Exec Body Then inBlk RG WR row obj pblk
def cellsOf (a : Acl) (u g : Value) : List Value := [.int .u8 a.o, .int .u8 a.g, .int .u8 a.t, u, g, .bool a.hm, .int .u8 a.m]
/-- The three perms of which the bits are. -/
def seenV (b : Nat) (hm : Bool) : Value := .agg #[.pointer (some ⟨b, 2, none⟩), .pointer (some ⟨b, if hm then 6 else 1, none⟩), .pointer (some ⟨b, 0, none⟩)]
set_option maxHeartbeats 400000 in
theorem seen_fn (h : PH) (o g t m : Int) (us gs : Value) (hm : Bool) (b : Nat) :
    Does Try.prog 48 [.pointer (some ⟨b, 0, none⟩)] [blk b [.int .u8 o, .int .u8 g, .int .u8 t, us, gs, .bool hm, .int .u8 m] 28] h
      (Ret fun r R' _ => r = seenV b hm ∧ R' = [blk b [.int .u8 o, .int .u8 g, .int .u8 t, us, gs, .bool hm, .int .u8 m] 28]) := by
  refine Does_of_W Try.func48 rfl (n := 27) rfl rfl (by simp only [argE] <;> rfl) ?_
  cases hm
  · (repeat (first | refine W_seq ?_))
    skip
    refine W_region rfl ?_
    (refine WL_alloc rfl rfl rfl rfl rfl rfl ?_; intro b_)
    (repeat (first | refine WL_nil ?_ | refine Then_normal ?_ | refine W_seq ?_))
    skip
    refine W_region rfl ?_
    refine WL_is (X_move rfl rfl) rfl rfl rfl ?_
    refine WL_is (X_nilCheck rfl rfl) rfl rfl rfl ?_
    refine WL_is (X_fieldAddr rfl rfl rfl (by simp only [Nat.zero_add] <;> rfl)) rfl rfl rfl ?_
    refine WL_is (X_load1 rfl rfl (by exact idx1) rfl rfl) rfl rfl rfl ?_
    (repeat (first | refine WL_nil ?_ | refine Then_normal ?_ | refine W_seq ?_ | refine W_skip ?_ | refine W_false rfl ?_))
    skip
    refine W_draw0 10 rfl rfl rfl rfl ?_
    refine RG_val rfl rfl (fun _ => rfl) (fun _ => X_move rfl rfl) ?_
    refine RG_val rfl rfl (fun _ => rfl) (fun _ => X_nilCheck rfl rfl) ?_
    refine RG_val rfl rfl (fun _ => rfl) (fun _ => X_fieldAddr rfl rfl rfl (by simp only [Nat.zero_add] <;> rfl)) ?_
    refine RG_val rfl rfl (fun _ => rfl) (fun _ => X_move rfl rfl) ?_
    refine RG_val rfl rfl (fun _ => rfl) (fun _ => X_nilCheck rfl rfl) ?_
    refine RG_val rfl rfl (fun _ => rfl) (fun _ => X_fieldAddr rfl rfl rfl (by simp only [Nat.zero_add] <;> rfl)) ?_
    refine RG_val rfl rfl (fun _ => rfl) (fun _ => X_move rfl rfl) ?_
    refine RG_val rfl rfl (fun _ => rfl) (fun _ => X_nilCheck rfl rfl) ?_
    refine RG_val rfl rfl (fun _ => rfl) (fun _ => X_fieldAddr rfl rfl rfl (by simp only [Nat.zero_add] <;> rfl)) ?_
    refine RG_val rfl rfl (fun _ => rfl) (fun _ => X_build rfl rfl rfl) ?_
    refine RG_nil ?_
    refine RG_endv rfl (fun vs => by simp only [endE, List.cons_append, List.nil_append] <;> rfl) (fun vs => rfl) ?_
    refine WL_store rfl rfl rfl (by exact idx0) rfl rfl rfl rfl rfl rfl rfl rfl rfl ?_
    (repeat (first | refine WL_nil ?_ | refine Then_normal ?_ | refine W_ret ?_))
    refine Body_vals (.cons (.cellA rfl idx0 rfl rfl rfl) .nil) rfl ?_
    exact UpdE.sub (SubR.skip _ (SubR.refl _)) ⟨rfl, rfl⟩
  · (repeat (first | refine W_seq ?_))
    skip
    refine W_region rfl ?_
    (refine WL_alloc rfl rfl rfl rfl rfl rfl ?_; intro b_)
    (repeat (first | refine WL_nil ?_ | refine Then_normal ?_ | refine W_seq ?_))
    skip
    refine W_region rfl ?_
    refine WL_is (X_move rfl rfl) rfl rfl rfl ?_
    refine WL_is (X_nilCheck rfl rfl) rfl rfl rfl ?_
    refine WL_is (X_fieldAddr rfl rfl rfl (by simp only [Nat.zero_add] <;> rfl)) rfl rfl rfl ?_
    refine WL_is (X_load1 rfl rfl (by exact idx1) rfl rfl) rfl rfl rfl ?_
    (repeat (first | refine WL_nil ?_ | refine Then_normal ?_ | refine W_seq ?_ | refine W_true rfl ?_))
    skip
    refine W_draw0 10 rfl rfl rfl rfl ?_
    refine RG_val rfl rfl (fun _ => rfl) (fun _ => X_move rfl rfl) ?_
    refine RG_val rfl rfl (fun _ => rfl) (fun _ => X_nilCheck rfl rfl) ?_
    refine RG_val rfl rfl (fun _ => rfl) (fun _ => X_fieldAddr rfl rfl rfl (by simp only [Nat.zero_add] <;> rfl)) ?_
    refine RG_val rfl rfl (fun _ => rfl) (fun _ => X_move rfl rfl) ?_
    refine RG_val rfl rfl (fun _ => rfl) (fun _ => X_nilCheck rfl rfl) ?_
    refine RG_val rfl rfl (fun _ => rfl) (fun _ => X_fieldAddr rfl rfl rfl (by simp only [Nat.zero_add] <;> rfl)) ?_
    refine RG_val rfl rfl (fun _ => rfl) (fun _ => X_move rfl rfl) ?_
    refine RG_val rfl rfl (fun _ => rfl) (fun _ => X_nilCheck rfl rfl) ?_
    refine RG_val rfl rfl (fun _ => rfl) (fun _ => X_fieldAddr rfl rfl rfl (by simp only [Nat.zero_add] <;> rfl)) ?_
    refine RG_val rfl rfl (fun _ => rfl) (fun _ => X_build rfl rfl rfl) ?_
    refine RG_nil ?_
    refine RG_endv rfl (fun vs => by simp only [endE, List.cons_append, List.nil_append] <;> rfl) (fun vs => rfl) ?_
    refine WL_store rfl rfl rfl (by exact idx0) rfl rfl rfl rfl rfl rfl rfl rfl rfl ?_
    (repeat (first | refine WL_nil ?_ | refine Then_normal ?_ | refine W_ret ?_ | refine Then_ret ?_))
    refine Body_vals (.cons (.cellA rfl idx0 rfl rfl rfl) .nil) rfl ?_
    exact UpdE.sub (SubR.skip _ (SubR.refl _)) ⟨rfl, rfl⟩
theorem or3 : ∀ A B C : Fin 8, bits .or .u16 (bits .or .u16 (bits .or .u16 0 ((A.val : Nat) : Int)) (((B.val : Nat) : Int) * 8)) (((C.val : Nat) : Int) * 64) = ((C.val : Nat) : Int) * 64 + ((B.val : Nat) : Int) * 8 + ((A.val : Nat) : Int) := by decide +kernel
theorem or3' {a b c : Int} (ha : 0 ≤ a) (hb : 0 ≤ b) (hc : 0 ≤ c) : bits .or .u16 (bits .or .u16 (bits .or .u16 0 (a % 8)) (b % 8 * 8)) (c % 8 * 64) = c % 8 * 64 + b % 8 * 8 + a % 8 := by
  have key := or3 ⟨(a % 8).toNat, by omega⟩ ⟨(b % 8).toNat, by omega⟩ ⟨(c % 8).toNat, by omega⟩
  simp only at key
  rw [show (((a % 8).toNat : Nat) : Int) = a % 8 from by omega, show (((b % 8).toNat : Nat) : Int) = b % 8 from by omega, show (((c % 8).toNat : Nat) : Int) = c % 8 from by omega] at key
  exact key
end Go.Proofs.Ytcgmbfgmofcemaa
