/- A part of the proof of InneParts: walks of the functions that it reaches. No condition. -/
import Derived.Test.YtjkocjjcdjjdiaaZtInX
import Derived.Test.YtjkocjjcdjjdiaaZtCv
import Derived.Test.YtjkocjjcdjjdiaaZmAuto
