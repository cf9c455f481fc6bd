/- A part of the proof of InneChunks: walks of the functions that it reaches. No condition. -/
import Derived.Test.YtjkocjjcdjjdiaaZtLeA
import Derived.Test.YtjkocjjcdjjdiaaZmP2
import Derived.Test.YtjkocjjcdjjdiaaZmAuto
namespace Go.Proofs.ZtLe
open Go.RowKit Go.Proofs Go.Proofs.Zm
/-! ### functions that may be called -/
theorem cl_9 : Callable Try.prog 9 := callable (by kernel_rfl)
theorem cl_12 : Callable Try.prog 12 := callable (by kernel_rfl)
theorem cl_13 : Callable Try.prog 13 := callable (by kernel_rfl)
theorem cl_14 : Callable Try.prog 14 := callable (by kernel_rfl)
theorem cl_15 : Callable Try.prog 15 := callable (by kernel_rfl)
theorem cl_16 : Callable Try.prog 16 := callable (by kernel_rfl)
theorem cl_17 : Callable Try.prog 17 := callable (by kernel_rfl)
theorem cl_18 : Callable Try.prog 18 := callable (by kernel_rfl)
theorem cl_19 : Callable Try.prog 19 := callable (by kernel_rfl)
theorem cl_20 : Callable Try.prog 20 := callable (by kernel_rfl)
theorem cl_21 : Callable Try.prog 21 := callable (by kernel_rfl)
theorem cl_25 : Callable Try.prog 25 := callable (by kernel_rfl)
theorem cl_28 : Callable Try.prog 28 := callable (by kernel_rfl)
theorem cl_30 : Callable Try.prog 30 := callable (by kernel_rfl)
theorem cl_31 : Callable Try.prog 31 := callable (by kernel_rfl)
theorem cl_32 : Callable Try.prog 32 := callable (by kernel_rfl)
theorem cl_33 : Callable Try.prog 33 := callable (by kernel_rfl)
theorem cl_35 : Callable Try.prog 35 := callable (by kernel_rfl)
theorem cl_36 : Callable Try.prog 36 := callable (by kernel_rfl)
theorem cl_37 : Callable Try.prog 37 := callable (by kernel_rfl)
theorem cl_39 : Callable Try.prog 39 := callable (by kernel_rfl)
theorem cl_42 : Callable Try.prog 42 := callable (by kernel_rfl)
theorem cl_43 : Callable Try.prog 43 := callable (by kernel_rfl)
theorem cl_46 : Callable Try.prog 46 := callable (by kernel_rfl)
theorem cl_52 : Callable Try.prog 52 := callable (by kernel_rfl)
end Go.Proofs.ZtLe
