/- Walk of the reference's ITake. -/
import Derived.Test.YtpknjfeiiaopgaaBucketK
import Derived.Test.YtpknjfeiiaopgaaBucketL
import Derived.Deep.Cut
import Derived.Deep.RegionWith
import Derived.Deep.DeepCutAuto
namespace Go.Proofs.Ytpknjfeiiaopgaa.Bucket
open Go.RowKit Go.Proofs.Ytpknjfeiiaopgaa.Big





end Go.Proofs.Ytpknjfeiiaopgaa.Bucket
