-- PRINTED BY print.sh 35421559b90ae4d0a3588c463048766b98c2df88dd9212a6774a882060cdf62d: not written by this session
import Derived.Test.YticnajjbmdfidaaWInv
import Derived.Test.YticnajjbmdfidaaWFootNe
namespace Go.Proofs.YticnajjbmdfidaaW.PrintWords
open Go.RowKit
end Go.Proofs.YticnajjbmdfidaaW.PrintWords
namespace Go.Proofs.YticnajjbmdfidaaW.PrintLast
section
end
end Go.Proofs.YticnajjbmdfidaaW.PrintLast
