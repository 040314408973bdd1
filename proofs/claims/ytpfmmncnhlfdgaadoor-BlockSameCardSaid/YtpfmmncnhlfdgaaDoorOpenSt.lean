/- A list of steps that comes in. -/
import Derived.Test.YtpfmmncnhlfdgaaDoorStpR
