import Derived.Test.YtaidalilfmjfgaaGreatBase
namespace Go.Proofs.YtaidalilfmjfgaaGreat
open Go.RowKit
end Go.Proofs.YtaidalilfmjfgaaGreat
