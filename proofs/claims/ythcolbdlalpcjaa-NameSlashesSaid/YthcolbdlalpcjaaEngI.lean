/- Engine, ninth text: parts of rows cleared. It speaks of no program. -/
import Derived.Test.YthcolbdlalpcjaaEngH
namespace Go.Par
open Go PH
section
variable {P : Program} {n : Nat} {ops : Array Oper} {l : List Oper} {o : Oper} {E : Env} {D : List Deferred} {R : List SL} {h : PH} {K : S → Prop} {Q : Exit → S → Prop}
theorem zeroCells_len (zs : List Value) (m : Nat) : (Builtin.zeroCells zs.toArray m).toList.length = m * zs.length := by simp [Builtin.zeroCells]
theorem zeroCells_flat {zs : List Value} (hz : zs.all flat = true) (h0 : 0 < zs.length) (m : Nat) : (Builtin.zeroCells zs.toArray m).toList.all flat = true := by
  rw [List.all_eq_true]
  intro x hx
  simp only [Builtin.zeroCells, Array.toList_map, List.mem_map] at hx
  obtain ⟨i, _, rfl⟩ := hx
  have hi : i % zs.toArray.size < zs.length := by simpa using Nat.mod_lt _ h0
  rw [getElem!_pos zs.toArray _ (by simpa using hi)]
  exact List.all_eq_true.1 hz _ (by simp)
theorem WL_clearA {x : Operand} {t t0 e : TypeId} {b off m cap i : Nat} {z : Value} {c zs : List Value} (ho : o.op = .call ⟨.builtin .clear, #[x], #[t]⟩) (ht : slOf P t = some e) (hz : zeOf P e = some z) (hzc : vcO z = some zs) (hzf : zs.all flat = true) (hz0 : Nat.blt 0 zs.length = true)
    (hx : ev E x = some (.slice (some ⟨b, off, none⟩) m cap)) (hm : 0 < m) (hi : R[i]? = some (blk b c t0)) (hc : off + m * zs.length ≤ c.length) (hd : o.dst = none) (hg : gd ops E o = some true)
    (k : ∀ zz : List Value, zz.length = m * zs.length → WL P n ops l ⟨E, D, R.set i (blk b (wr c off zz) t0), h⟩ K Q) : WL P n ops (o :: l) ⟨E, D, R, h⟩ K Q := by
  have hz0 : 0 < zs.length := by simpa [Nat.blt_eq] using hz0
  have hzz := zeroCells_len zs m
  have hzzf := zeroCells_flat hzf hz0 m
  have hcz : z.cells = zs.toArray := by rw [vc_cells, vcO_eq hzc]
  refine WL_do (A := fun _ R' h' => R' = R.set i (blk b (wr c off (Builtin.zeroCells zs.toArray m).toList) t0) ∧ h' = h) ?_ hd hg fun _ _ _ _ ⟨e1, e2⟩ => by subst e1; subst e2; exact k _ hzz
  refine Exec_of_run fun κ h0 f a w _ ha hw => ?_
  have hb := hw.obj_at hi
  have hst := run_storeCells_at (P := P) (off := off) (i := 0) (vs := (Builtin.zeroCells zs.toArray m).toList) hb (by rw [hzz]; omega) hzzf
  refine ⟨.tuple #[], _, h, _, .inl ?_, le.refl _, hw.turnRow hi, rfl, rfl⟩
  obtain ⟨m, rfl⟩ : ∃ m', m = m' + 1 := ⟨m - 1, by omega⟩
  simp only [Nat.add_zero] at hst
  simp only [execOp, ho, resolve, invoke, builtin, Sem.run_bind, Sem.run_pure, Result.andThen_ok]
  simp [ha.ev hx, Builtin.clear_, run_underlying w (slOf_under ht), run_zeroValue w hz, hcz, hst]
end
end Go.Par
