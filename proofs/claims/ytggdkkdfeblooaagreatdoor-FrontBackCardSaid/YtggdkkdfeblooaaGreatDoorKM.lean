/- Part KM of the proof. What is proved by the whole: the statement that the claim names, with no condition. -/
import Derived.Test.YtggdkkdfeblooaaGreatDoorKL
import Derived.KernelRfl
import Derived.Test.YtggdkkdfeblooaaGreatDoorRows
import Derived.Stop.Joined
set_option linter.all false
section
namespace Go.Proofs.YtggdkkdfeblooaaGreatDoor
def j1:(Rows.frontBackRow.inPlace == Tryz.prog.inPlace 3)=true:=by kernel_rfl
def j2:(Rows.frontBackRow.unfollowed == Tryz.prog.unfollowed 3)=true:=by kernel_rfl
def j3:(Rows.frontBackRow.recurses == Tryz.prog.recurses 3)=true:=by kernel_rfl
def j4:(Rows.frontBackRow.named == Tryz.prog.varsNamed 3)=true:=by kernel_rfl
end Go.Proofs.YtggdkkdfeblooaaGreatDoor
end
