/- What is read behind a pointer that comes in: a field's place, a single cell. Over any program. No condition of its own. -/
import Derived.Test.YtgpiapmbbnngpaaGreatDoorSxM
namespace Go.Proofs.YtgpiapmbbnngpaaGreatDoor
open Go Go.RowKit Go.Lib Go.Sort

theorem run_one {P : Program} {t : TypeId} {b off : Nat} {d : TypeDesc} {v : Value} (hu : P.underlying t = some d) (hd : d.isRow = false) {W : World} (hc : W.cell? ⟨b, off, none⟩ = some v) :
    (Instr.loadAt t (.pointer (some ⟨b, off, none⟩))).run P W = .ok v W := by
  have hagg : (isAgg t).run P W = .ok false W := by
    unfold isAgg
    rw [Sem.run_bind, run_underlying hu W]
    cases d <;> simp_all
  rw [Sx.run_sure]
  simp [loadVar, Sem.run_bind, hagg, load, Sem.run, hc]
theorem run_field {P : Program} {s : TypeId} {fields : Array Field} {f : Nat} {fd : Field} {k b off : Nat} (hu : P.underlying s = some (.struct fields)) (hf : fields[f]? = some fd) (hk : (P.info? fd.type).map (·.size) = some (k + 1)) (W : World) :
    (Instr.fieldAt s (.pointer (some ⟨b, off, none⟩)) f).run P W = .ok (.pointer (some ⟨b, off + fd.offset, none⟩)) W := by
  cases hq : P.info? fd.type with
  | none => rw [hq] at hk; cases hk
  | some inf =>
    rw [hq] at hk
    have hk : inf.size = k + 1 := by simpa using hk
    simp [Instr.fieldAt, run_underlying hu, hf, Instr.sureAddr, fieldPlace, sizeOf, typeInfo, hq, hk, Addr.add_lit]
end Go.Proofs.YtgpiapmbbnngpaaGreatDoor
