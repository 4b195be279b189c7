/- Lemmas, each with its own conditions. -/
import Derived.Test.YtjagagpcjpcjjaaGreatMw00
import Derived.WalkKit
import Derived.Lib.Hide
import Derived.BigQuiet
import Derived.OrdersHeld
namespace Go.Proofs.YtjagagpcjpcjjaaGreat
open Go.RowKit
abbrev bK:=@Go.Lib.hid
abbrev bP:=@Go.RowKit.Below.refl
abbrev dD:=@Go.World.cell?_of_block
abbrev dG:=@Go.bodyPost_ret
abbrev dM:=@Go.RowKit.Below.heap_setCell
abbrev dO:=@Go.RowKit.Below.setCell
abbrev dR:=@Go.World.cell?_setCell_other
abbrev dS:=@Go.heap_alloc_new
abbrev dU:=@Go.Value.slice.injEq
abbrev eP:=@Go.IntWalk.i64_in
abbrev eU:=@Go.World.cell?_setCell_same
abbrev fA:=@Go.RowKit.Below.heap_alloc
abbrev fF:=@Go.RowKit.Below.alloc
abbrev gB:=@Go.frozen_of_row
abbrev gI:=@Go.World.frozen?_setCell
abbrev gT:=@Go.heap_setCell_same
abbrev ap2:=@Go.cell_of_row
abbrev ap4:=@Go.World.drewN_drewN
abbrev ap8:=@Go.World.frozen?_of_block
abbrev aqa:=@Go.info_parts
abbrev aqc:=@Go.World.size_alloc
abbrev aqi:=@Go.wpList_plain
abbrev aqk:=@Go.World.ownsRow_lit
abbrev aqn:=@Go.Calls.quiet_of
abbrev aqx:=@Go.Result.andThen_ok
abbrev aqA:=@Go.RowKit.Below.drew
abbrev aqD:=@Go.wpQuiet_nil
abbrev aqF:=@Go.DataW.trod_int
abbrev aqH:=@Go.IntKind.wrap_u64
abbrev aqM:=@Go.Addr.mk.injEq
abbrev aqU:=@Go.Sem.run_pure
abbrev ara:=@Go.Sem.run_bind
abbrev arw:=@Go.ready_mono
abbrev arx:=@Go.toList_madeCells_one
abbrev arz:=@Go.Result.ok.injEq
abbrev arK:=@Go.wpList_append_own
abbrev ar4:=@Go.Oper.semAt_some
abbrev ar5:=@Go.mixStep_u64
abbrev ar6:=@Go.Addr.mk.inj
abbrev ar8:=@Go.run_underlying
abbrev ar9:=@Go.run_append_own
abbrev asb:=@Go.run_convert_bytes_arg
abbrev ase:=@Go.Region.noSelect_spec
abbrev ash:=@Go.callsIn_of_wp
abbrev asq:=@Go.wpOp_mono
abbrev asu:=@Go.getD_set_ne
abbrev asv:=@Go.RowKit.run_makeMap
theorem iB (w:World) (o:Obj):Below w.heap.size w (w.alloc o):=(Below.refl w.heap.size w).alloc (Nat.le_refl _) o
theorem aB {p:Prop} (h:p:=by kernel_rfl):p:=h
theorem aS {p:Prop} (h:p:=by unfold maxLen;omega):p:=h
theorem bf {p:Prop} (h:p:=by simp [go_sem]):p:=h
theorem bg {p:Prop} (h:p:=by unfold i64;omega):p:=h
theorem bF {p:Prop} (h:p:=by simp [intOf];omega):p:=h
