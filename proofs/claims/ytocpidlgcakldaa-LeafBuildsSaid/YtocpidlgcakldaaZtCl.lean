/- A part of the proof of LeafBuilds: walks of the functions that it reaches. No condition. -/
import Derived.Test.YtocpidlgcakldaaZtLeA
import Derived.Test.YtocpidlgcakldaaZmP1
import Derived.Test.YtocpidlgcakldaaZmAuto
namespace Go.Proofs.ZtLe
open Go.RowKit Go.Proofs Go.Proofs.Zm
/-! ### functions that may be called -/
theorem cl_19 : Callable Try.prog 19 := callable (by kernel_rfl)
theorem cl_25 : Callable Try.prog 25 := callable (by kernel_rfl)
theorem cl_30 : Callable Try.prog 30 := callable (by kernel_rfl)
theorem cl_31 : Callable Try.prog 31 := callable (by kernel_rfl)
theorem cl_32 : Callable Try.prog 32 := callable (by kernel_rfl)
theorem cl_33 : Callable Try.prog 33 := callable (by kernel_rfl)
theorem cl_34 : Callable Try.prog 34 := callable (by kernel_rfl)
theorem cl_40 : Callable Try.prog 40 := callable (by kernel_rfl)
theorem cl_44 : Callable Try.prog 44 := callable (by kernel_rfl)
theorem cl_55 : Callable Try.prog 55 := callable (by kernel_rfl)
theorem cl_56 : Callable Try.prog 56 := callable (by kernel_rfl)
theorem cl_57 : Callable Try.prog 57 := callable (by kernel_rfl)
theorem cl_59 : Callable Try.prog 59 := callable (by kernel_rfl)
theorem cl_66 : Callable Try.prog 66 := callable (by kernel_rfl)
theorem cl_67 : Callable Try.prog 67 := callable (by kernel_rfl)
theorem cl_68 : Callable Try.prog 68 := callable (by kernel_rfl)
theorem cl_69 : Callable Try.prog 69 := callable (by kernel_rfl)
theorem cl_70 : Callable Try.prog 70 := callable (by kernel_rfl)
theorem cl_83 : Callable Try.prog 83 := callable (by kernel_rfl)
theorem cl_84 : Callable Try.prog 84 := callable (by kernel_rfl)
theorem cl_85 : Callable Try.prog 85 := callable (by kernel_rfl)
theorem cl_88 : Callable Try.prog 88 := callable (by kernel_rfl)
theorem cl_96 : Callable Try.prog 96 := callable (by kernel_rfl)
theorem cl_97 : Callable Try.prog 97 := callable (by kernel_rfl)
theorem cl_98 : Callable Try.prog 98 := callable (by kernel_rfl)
theorem cl_99 : Callable Try.prog 99 := callable (by kernel_rfl)
theorem cl_100 : Callable Try.prog 100 := callable (by kernel_rfl)
theorem cl_105 : Callable Try.prog 105 := callable (by kernel_rfl)
theorem cl_106 : Callable Try.prog 106 := callable (by kernel_rfl)
theorem cl_107 : Callable Try.prog 107 := callable (by kernel_rfl)
theorem cl_110 : Callable Try.prog 110 := callable (by kernel_rfl)
theorem cl_112 : Callable Try.prog 112 := callable (by kernel_rfl)
end Go.Proofs.ZtLe
