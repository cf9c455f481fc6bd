/- A part of the proof of LeafRoom: walks of the functions that it reaches. No condition. -/
import Derived.Test.YtocpidlgcakldaaZtLeA
import Derived.Test.YtocpidlgcakldaaZmP2
import Derived.Test.YtocpidlgcakldaaZmAuto
namespace Go.Proofs.ZtLe
open Go.RowKit Go.Proofs Go.Proofs.Zm
/-! ### functions that may be called -/
theorem cl_19 : Callable Try.prog 19 := callable zq41
theorem cl_25 : Callable Try.prog 25 := callable zq41
theorem cl_30 : Callable Try.prog 30 := callable zq41
theorem cl_31 : Callable Try.prog 31 := callable zq41
theorem cl_32 : Callable Try.prog 32 := callable zq41
theorem cl_33 : Callable Try.prog 33 := callable zq41
theorem cl_34 : Callable Try.prog 34 := callable zq41
theorem cl_35 : Callable Try.prog 35 := callable zq41
theorem cl_37 : Callable Try.prog 37 := callable zq41
theorem cl_40 : Callable Try.prog 40 := callable zq41
theorem cl_44 : Callable Try.prog 44 := callable zq41
theorem cl_54 : Callable Try.prog 54 := callable zq41
theorem cl_55 : Callable Try.prog 55 := callable zq41
theorem cl_56 : Callable Try.prog 56 := callable zq41
theorem cl_57 : Callable Try.prog 57 := callable zq41
theorem cl_59 : Callable Try.prog 59 := callable zq41
theorem cl_66 : Callable Try.prog 66 := callable zq41
theorem cl_67 : Callable Try.prog 67 := callable zq41
theorem cl_68 : Callable Try.prog 68 := callable zq41
theorem cl_69 : Callable Try.prog 69 := callable zq41
theorem cl_70 : Callable Try.prog 70 := callable zq41
theorem cl_71 : Callable Try.prog 71 := callable zq41
theorem cl_72 : Callable Try.prog 72 := callable zq41
theorem cl_74 : Callable Try.prog 74 := callable zq41
theorem cl_81 : Callable Try.prog 81 := callable zq41
theorem cl_83 : Callable Try.prog 83 := callable zq41
theorem cl_84 : Callable Try.prog 84 := callable zq41
theorem cl_85 : Callable Try.prog 85 := callable zq41
theorem cl_86 : Callable Try.prog 86 := callable zq41
theorem cl_87 : Callable Try.prog 87 := callable zq41
theorem cl_88 : Callable Try.prog 88 := callable zq41
theorem cl_96 : Callable Try.prog 96 := callable zq41
theorem cl_97 : Callable Try.prog 97 := callable zq41
theorem cl_98 : Callable Try.prog 98 := callable zq41
theorem cl_99 : Callable Try.prog 99 := callable zq41
theorem cl_100 : Callable Try.prog 100 := callable zq41
theorem cl_105 : Callable Try.prog 105 := callable zq41
theorem cl_106 : Callable Try.prog 106 := callable zq41
theorem cl_107 : Callable Try.prog 107 := callable zq41
theorem cl_110 : Callable Try.prog 110 := callable zq41
theorem cl_112 : Callable Try.prog 112 := callable zq41
end Go.Proofs.ZtLe
