/- A part of the proof of InneBuilds: walks of the functions that it reaches. No condition. -/
import Derived.Test.YtjkocjjcdjjdiaaZtInZ
import Derived.Test.YtjkocjjcdjjdiaaZtCv
import Derived.Test.YtjkocjjcdjjdiaaZmAuto
