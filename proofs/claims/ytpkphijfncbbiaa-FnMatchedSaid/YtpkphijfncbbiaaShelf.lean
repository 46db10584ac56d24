/- The contracts of the library functions that this seat calls, laid at this dump (written by the kit's own tools out of its shelf; cut to what is used). -/
import Derived.Test.YtpkphijfncbbiaaProg
namespace Go.Proofs

end Go.Proofs
