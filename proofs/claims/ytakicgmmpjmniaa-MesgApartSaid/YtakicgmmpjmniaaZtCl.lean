/- A part of the proof of MesgApart: walks of the functions that it reaches. No condition. -/
import Derived.Test.YtakicgmmpjmniaaZtLeA
import Derived.Test.YtakicgmmpjmniaaZmP1
import Derived.Test.YtakicgmmpjmniaaZmAuto
namespace Go.Proofs.ZtLe
open Go.RowKit Go.Proofs Go.Proofs.Zm
/-! ### functions that may be called -/
theorem cl_12 : Callable Try.prog 12 := callable (by kernel_rfl)
theorem cl_13 : Callable Try.prog 13 := callable (by kernel_rfl)
theorem cl_14 : Callable Try.prog 14 := callable (by kernel_rfl)
theorem cl_15 : Callable Try.prog 15 := callable (by kernel_rfl)
theorem cl_17 : Callable Try.prog 17 := callable (by kernel_rfl)
theorem cl_19 : Callable Try.prog 19 := callable (by kernel_rfl)
theorem cl_21 : Callable Try.prog 21 := callable (by kernel_rfl)
theorem cl_24 : Callable Try.prog 24 := callable (by kernel_rfl)
theorem cl_25 : Callable Try.prog 25 := callable (by kernel_rfl)
theorem cl_27 : Callable Try.prog 27 := callable (by kernel_rfl)
theorem cl_35 : Callable Try.prog 35 := callable (by kernel_rfl)
theorem cl_37 : Callable Try.prog 37 := callable (by kernel_rfl)
theorem cl_38 : Callable Try.prog 38 := callable (by kernel_rfl)
theorem cl_39 : Callable Try.prog 39 := callable (by kernel_rfl)
theorem cl_40 : Callable Try.prog 40 := callable (by kernel_rfl)
theorem cl_41 : Callable Try.prog 41 := callable (by kernel_rfl)
theorem cl_42 : Callable Try.prog 42 := callable (by kernel_rfl)
theorem cl_44 : Callable Try.prog 44 := callable (by kernel_rfl)
theorem cl_45 : Callable Try.prog 45 := callable (by kernel_rfl)
theorem cl_46 : Callable Try.prog 46 := callable (by kernel_rfl)
theorem cl_48 : Callable Try.prog 48 := callable (by kernel_rfl)
theorem cl_52 : Callable Try.prog 52 := callable (by kernel_rfl)
theorem cl_53 : Callable Try.prog 53 := callable (by kernel_rfl)
theorem cl_54 : Callable Try.prog 54 := callable (by kernel_rfl)
theorem cl_55 : Callable Try.prog 55 := callable (by kernel_rfl)
theorem cl_57 : Callable Try.prog 57 := callable (by kernel_rfl)
theorem cl_58 : Callable Try.prog 58 := callable (by kernel_rfl)
theorem cl_59 : Callable Try.prog 59 := callable (by kernel_rfl)
theorem cl_62 : Callable Try.prog 62 := callable (by kernel_rfl)
end Go.Proofs.ZtLe
