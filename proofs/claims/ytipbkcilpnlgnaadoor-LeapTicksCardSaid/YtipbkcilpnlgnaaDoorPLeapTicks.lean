/- LeapTicks: the plain law (text Pg). -/
import Derived.Test.YtipbkcilpnlgnaaDoorPg
