/- A part of the proof of InneWays: walks of the functions that it reaches. No condition. -/
import Derived.Test.YtjkocjjcdjjdiaaZtInW
import Derived.Test.YtjkocjjcdjjdiaaZtCv
import Derived.Test.YtjkocjjcdjjdiaaZmAuto
