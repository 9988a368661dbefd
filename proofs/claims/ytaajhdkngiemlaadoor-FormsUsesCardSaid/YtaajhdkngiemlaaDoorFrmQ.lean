import Derived.Test.YtaajhdkngiemlaaDoorFrmK
import Derived.Test.YtaajhdkngiemlaaDoorFrmK2
set_option linter.unusedVariables false
set_option linter.unusedSimpArgs false
namespace Go.Proofs.YtaajhdkngiemlaaDoor.frm
open Go Go.Ab
theorem foldI_ : ∀ r : Int, IntKind.wrap .i64 ((1 : Int) * 2 ^ (min (Int.toNat r) (IntKind.bits .i64))) = bitI r := fun _ => rfl
theorem foldR_ : ∀ r : Int, bitI (IntKind.wrap .u64 r) = bitR r := fun _ => rfl
theorem o16_ : ∀ x : BitVec 16, ibits .or .i64 (x.toNat : Int) (16 : Int) = ((x ||| 16#16).toNat : Int) := fun x => orI x 16#16
theorem o32_ : ∀ x : BitVec 16, ibits .or .i64 (x.toNat : Int) (32 : Int) = ((x ||| 32#16).toNat : Int) := fun x => orI x 32#16
theorem o1_ : ∀ x : BitVec 16, ibits .or .i64 (x.toNat : Int) (1 : Int) = ((x ||| 1#16).toNat : Int) := fun x => orI x 1#16
theorem o197_ : ∀ x : BitVec 16, ibits .or .i64 (x.toNat : Int) (197 : Int) = ((x ||| 197#16).toNat : Int) := fun x => orI x 197#16
theorem o48_ : ∀ x : BitVec 16, ibits .or .i64 (x.toNat : Int) (48 : Int) = ((x ||| 48#16).toNat : Int) := fun x => orI x 48#16
theorem o4_ : ∀ x : BitVec 16, ibits .or .i64 (x.toNat : Int) (4 : Int) = ((x ||| 4#16).toNat : Int) := fun x => orI x 4#16
theorem o2051_ : ∀ x : BitVec 16, ibits .or .i64 (x.toNat : Int) (2051 : Int) = ((x ||| 2051#16).toNat : Int) := fun x => orI x 2051#16
theorem o128_ : ∀ x : BitVec 16, ibits .or .i64 (x.toNat : Int) (128 : Int) = ((x ||| 128#16).toNat : Int) := fun x => orI x 128#16
theorem o64_ : ∀ x : BitVec 16, ibits .or .i64 (x.toNat : Int) (64 : Int) = ((x ||| 64#16).toNat : Int) := fun x => orI x 64#16
end Go.Proofs.YtaajhdkngiemlaaDoor.frm
