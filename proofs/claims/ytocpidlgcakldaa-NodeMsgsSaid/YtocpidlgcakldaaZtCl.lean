/- A part of the proof of NodeMsgs: walks of the functions that it reaches. No condition. -/
import Derived.Test.YtocpidlgcakldaaZtLeA
import Derived.Test.YtocpidlgcakldaaZmP2
import Derived.Test.YtocpidlgcakldaaZmAuto
namespace Go.Proofs.ZtLe
open Go.RowKit Go.Proofs Go.Proofs.Zm
/-! ### functions that may be called -/
theorem cl_12 : Callable Try.prog 12 := callable zq36
theorem cl_13 : Callable Try.prog 13 := callable zq36
theorem cl_14 : Callable Try.prog 14 := callable zq36
theorem cl_15 : Callable Try.prog 15 := callable zq36
theorem cl_16 : Callable Try.prog 16 := callable zq36
theorem cl_17 : Callable Try.prog 17 := callable zq36
theorem cl_18 : Callable Try.prog 18 := callable zq36
theorem cl_19 : Callable Try.prog 19 := callable zq36
theorem cl_20 : Callable Try.prog 20 := callable zq36
theorem cl_24 : Callable Try.prog 24 := callable zq36
theorem cl_26 : Callable Try.prog 26 := callable zq36
theorem cl_42 : Callable Try.prog 42 := callable zq36
theorem cl_43 : Callable Try.prog 43 := callable zq36
theorem cl_44 : Callable Try.prog 44 := callable zq36
theorem cl_45 : Callable Try.prog 45 := callable zq36
theorem cl_46 : Callable Try.prog 46 := callable zq36
theorem cl_47 : Callable Try.prog 47 := callable zq36
theorem cl_48 : Callable Try.prog 48 := callable zq36
theorem cl_49 : Callable Try.prog 49 := callable zq36
theorem cl_50 : Callable Try.prog 50 := callable zq36
theorem cl_51 : Callable Try.prog 51 := callable zq36
theorem cl_52 : Callable Try.prog 52 := callable zq36
theorem cl_53 : Callable Try.prog 53 := callable zq36
theorem cl_54 : Callable Try.prog 54 := callable zq36
theorem cl_56 : Callable Try.prog 56 := callable zq36
theorem cl_58 : Callable Try.prog 58 := callable zq36
theorem cl_59 : Callable Try.prog 59 := callable zq36
theorem cl_61 : Callable Try.prog 61 := callable zq36
theorem cl_76 : Callable Try.prog 76 := callable zq36
theorem cl_77 : Callable Try.prog 77 := callable zq36
theorem cl_78 : Callable Try.prog 78 := callable zq36
theorem cl_88 : Callable Try.prog 88 := callable zq36
theorem cl_89 : Callable Try.prog 89 := callable zq36
theorem cl_90 : Callable Try.prog 90 := callable zq36
theorem cl_91 : Callable Try.prog 91 := callable zq36
theorem cl_92 : Callable Try.prog 92 := callable zq36
theorem cl_93 : Callable Try.prog 93 := callable zq36
theorem cl_94 : Callable Try.prog 94 := callable zq36
theorem cl_102 : Callable Try.prog 102 := callable zq36
theorem cl_103 : Callable Try.prog 103 := callable zq36
theorem cl_104 : Callable Try.prog 104 := callable zq36
end Go.Proofs.ZtLe
