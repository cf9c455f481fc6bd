/- A part of the proof of InneChunks: walks of the functions that it reaches. No condition. -/
import Derived.Test.YtjkocjjcdjjdiaaZtInAA
import Derived.Test.YtjkocjjcdjjdiaaZtCv
import Derived.Test.YtjkocjjcdjjdiaaZmAuto
