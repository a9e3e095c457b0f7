/- Arguments opened: numbers, texts, truth. -/
import Derived.Test.YtmohiefnoflndaaRowB
namespace Go.Proofs.Ytmohiefnoflndaa
set_option maxRecDepth 4000
open Go Go.Par PH Go.WideShapes
theorem opn_int {k : IntKind} {H : Type} {enc : TypeId × Value → H} {W : World} {r : Reach} {base : Nat} {sp : Nat → Bool} {held : Bool} {v : Value} {d : DataW H} {ps : List MemPlace} {t : TypeId} (ht : Try.prog.underlying t = some (.int k)) (hval : Value.okWide Try.prog W r base t v)
    (hd : DataW.Trod enc Try.prog W 0 sp held t v d ps) : ∃ n, v = .int k n ∧ k.min ≤ n ∧ n ≤ k.max := by
  obtain ⟨n, rfl, _, _, hw⟩ := ChangeShapes.open_int (k := k) ht hval hd
  refine ⟨n, rfl, ?_⟩
  have hw : (decide (k.min ≤ n) && decide (n ≤ k.max)) = true := hw
  simp only [Bool.and_eq_true, decide_eq_true_eq] at hw
  exact hw
theorem opn_nat {k : IntKind} {H : Type} {enc : TypeId × Value → H} {W : World} {r : Reach} {base : Nat} {sp : Nat → Bool} {held : Bool} {v : Value} {d : DataW H} {ps : List MemPlace} {t : TypeId} (ht : Try.prog.underlying t = some (.int k)) (hk : k.min = 0) (hval : Value.okWide Try.prog W r base t v)
    (hd : DataW.Trod enc Try.prog W 0 sp held t v d ps) : ∃ n : Nat, v = .int k (n : Int) ∧ (n : Int) ≤ k.max := by
  obtain ⟨n, rfl, h1, h2⟩ := opn_int ht hval hd
  rw [hk] at h1
  obtain ⟨n, rfl⟩ := Int.eq_ofNat_of_zero_le h1
  exact ⟨n, rfl, h2⟩
theorem opn_str {H : Type} {enc : TypeId × Value → H} {W : World} {r : Reach} {base : Nat} {sp : Nat → Bool} {held : Bool} {v : Value} {d : DataW H} {ps : List MemPlace} {t : TypeId} (ht : Try.prog.underlying t = some .string) (hval : Value.okWide Try.prog W r base t v)
    (hd : DataW.Trod enc Try.prog W 0 sp held t v d ps) : ∃ s : ByteArray, v = .string s := by
  have _ := hd
  exact WideShapes.okWide_string ht hval
theorem opn_bool {H : Type} {enc : TypeId × Value → H} {W : World} {r : Reach} {base : Nat} {sp : Nat → Bool} {held : Bool} {v : Value} {d : DataW H} {ps : List MemPlace} {t : TypeId} (ht : Try.prog.underlying t = some .bool) (hval : Value.okWide Try.prog W r base t v)
    (hd : DataW.Trod enc Try.prog W 0 sp held t v d ps) : ∃ b, v = .bool b := by
  obtain ⟨b, e, _⟩ := RowKit.open_bool ht hval hd
  exact ⟨b, e⟩
end Go.Proofs.Ytmohiefnoflndaa
