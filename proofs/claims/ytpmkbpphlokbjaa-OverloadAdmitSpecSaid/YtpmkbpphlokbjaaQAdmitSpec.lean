import Derived.Test.YtpmkbpphlokbjaaGAx5
import Derived.Test.YtpmkbpphlokbjaaGAx5b
import Derived.Test.YtpmkbpphlokbjaaHA
namespace Go.Proofs.Ytpmkbpphlokbjaa.GA
open Go.RowKit HA
theorem sane_one : crossbarlaw32_sane.f 1 = some true := by kernel_rfl
theorem radmit_eq (t l p d now : Int) (em : Bool) : crossbarref32_Admit.f t l p d now em = overload_Admit.f t l p d now em := rfl
theorem pure_OverloadAdmitSpec (t l p d now : Int) (em : Bool) : ∃ k, crossbarlaw32_OverloadAdmitSpec.f k t l p d now em = some true := by
  refine ⟨1, ?_⟩
  unfold crossbarlaw32_OverloadAdmitSpec.f
  rw [sane_one, radmit_eq, admit_eq]
  simp
end Go.Proofs.Ytpmkbpphlokbjaa.GA
