/- Own work. -/
import Derived.WalkKit
import Derived.Maps.AppendAt
import Derived.Deep.LoopGhost
import Derived.Orders
import Derived.OrdersIn
import Derived.TacticsIn
import Derived.Sort.LoopGhostIn
import Derived.Laws.BytesArg
import Derived.Lib.ConvBytes
import Derived.Laws.MakeOwn
import Derived.Laws.OwnMore
import Derived.Laws.Slices
import Derived.OrdersHeld
import Derived.Test.YtdbebmmhdefgdaaGreatProg
import Derived.KernelRfl
import Derived.ProofKit
import Derived.OpenShut
import Derived.Laws.LoneSync
import Derived.Deep.Matrix
import Derived.Laws.Rows
import Derived.SizedLaws
import Derived.Shelf.SlSortCmp.WholeK
set_option linter.unusedVariables false
set_option linter.unusedSimpArgs false
namespace Go
abbrev aa:=@Go.Proofs.Tryz.underlying52
abbrev af.{u}:=@List.getD_eq_getElem?_getD.{u}
abbrev ah.{u}:=@List.length_append.{u}
abbrev ai:=@Go.Proofs.Tryz.underlying22
abbrev ak:=@Go.Proofs.Tryz.underlying3
abbrev au:=@Nat.le_of_ble_eq_true
abbrev av.{u}:=@List.getElem?_eq_getElem.{u}
abbrev ax.{u}:=@List.length_take.{u}
abbrev ay:=@Int.lt_or_le
abbrev az:=@Int.toNat_natCast
abbrev bg.{u}:=@List.length_drop.{u}
abbrev bi.{u,v}:=@List.length_map.{u,v}
abbrev bn.{u}:=@List.take_of_length_le.{u}
abbrev bq.{u}:=@List.length_replicate.{u}
abbrev bu.{u}:=@if_neg.{u}
abbrev bz.{u,v}:=@congrArg.{u,v}
abbrev cu.{u}:=@if_pos.{u}
abbrev cz:=@Go.Proofs.Tryz.underlying5
abbrev df:=@Go.Proofs.Tryz.underlying27
abbrev dh:=@Nat.le_refl
abbrev di.{u}:=@List.pairwise_iff_getElem.{u}
abbrev dm.{u}:=@List.length_cons.{u}
abbrev dn.{u}:=@List.getElem?_eq_some_iff.{u}
abbrev dw.{u}:=@List.mem_cons_of_mem.{u}
abbrev dx:=@Nat.eq_zero_or_pos
abbrev dz.{u}:=@Array.getElem?_eq_some_iff.{u}
abbrev ed.{u}:=@List.eq_nil_of_length_eq_zero.{u}
abbrev ek.{u}:=@List.mem_of_getElem?.{u}
abbrev fe:=@Nat.lt_or_ge
abbrev fo:=@Go.Proofs.Tryz.underlying112
abbrev fw.{u}:=@List.mem_append.{u}
abbrev gm:=@Go.Proofs.Tryz.underlying87
abbrev gp:=@Go.Proofs.Tryz.underlying23
abbrev gq.{u}:=@List.take_append_drop.{u}
abbrev gu:=@Go.Proofs.Tryz.underlying100
abbrev gy:=@Go.Proofs.Tryz.underlying102
abbrev gz.{u}:=@List.mem_iff_getElem.{u}
abbrev ib.{u,v}:=@Option.map_eq_some_iff.{u,v}
abbrev ic.{u}:=@List.length_singleton.{u}
abbrev ig.{u}:=@List.append_assoc.{u}
abbrev ii:=@decide_eq_true_iff
abbrev ik.{u,v}:=@List.pairwise_map.{u,v}
abbrev il.{u,v}:=@List.mem_map.{u,v}
abbrev iv.{u}:=@List.pairwise_cons.{u}
abbrev iw.{u}:=@Option.some.inj.{u}
abbrev iy.{u}:=@List.getElem?_append_right.{u}
abbrev ja:=@Int.lt_trichotomy
abbrev jb.{u}:=@List.nil_append.{u}
abbrev jc.{u}:=@List.mem_singleton.{u}
abbrev jd.{u}:=@List.cons_append.{u}
abbrev je.{u}:=@List.getElem?_append_left.{u}
abbrev jf.{u}:=@List.mem_cons.{u}
abbrev jg:=@Go.Proofs.Tryz.underlying253
abbrev jh.{u,v}:=@List.map_append.{u,v}
abbrev ji:=@List.mem_range
abbrev jk:=@Go.Result.andThen_ok
abbrev jl.{u}:=@Array.length_toList.{u}
abbrev jm:=@Go.Sem.run_bind
abbrev jo.{u}:=@List.append_nil.{u}
abbrev jq:=@Go.Value.slice.injEq
abbrev jr.{u,v}:=@Option.map_some.{u,v}
abbrev jv:=@Go.Proofs.Tryz.underlying56
abbrev jw.{u}:=@List.drop_eq_getElem_cons.{u}
abbrev jy.{u}:=@List.length_nil.{u}
abbrev kg:=@Go.Proofs.Tryz.underlying230
abbrev ko:=@Go.Proofs.Tryz.underlying25
abbrev ku.{u}:=@List.filter_cons_of_neg.{u}
abbrev kv.{u,v}:=@List.map_cons.{u,v}
abbrev ky:=@Int.le_refl
abbrev kz.{u}:=@List.getElem_mem.{u}
abbrev lc:=@Nat.mod_eq_of_lt
abbrev lh:=@decide_eq_true
abbrev ll.{u}:=@List.getElem?_eq_none.{u}
abbrev lm.{u}:=@Option.some.injEq.{u}
abbrev lq:=@Go.run_underlying
abbrev lu.{u}:=@List.mem_of_mem_take.{u}
abbrev lv:=@Go.Sem.run_pure
abbrev mf:=@Go.Proofs.Tryz.underlying49
abbrev mg:=@Int.mul_le_mul_of_nonneg_right
abbrev mh.{u}:=@Option.getD_some.{u}
abbrev mo.{u}:=@List.mem_filter.{u}
abbrev mr.{u}:=@List.Pairwise.imp_of_mem.{u}
abbrev ng.{u}:=@List.getElem?_take_of_lt.{u}
abbrev ni:=@Nat.zero_add
abbrev nk:=@Go.Proofs.Tryz.underlying352
abbrev nu:=@Go.Proofs.Tryz.underlying360
abbrev ny.{u}:=@List.filter_cons_of_pos.{u}
abbrev nz.{u}:=@List.singleton_append.{u}
abbrev og:=@Go.Proofs.Tryz.underlying269
abbrev oh.{u}:=@List.getElem?_take.{u}
abbrev ol:=@decide_eq_false
abbrev oq.{u}:=@Array.getElem?_eq_getElem.{u}
abbrev ou:=@Int.toNat_of_nonneg
abbrev ow.{u}:=@List.flatten_append.{u}
abbrev oz.{u}:=@List.length_reverse.{u}
abbrev pg.{u}:=@List.mem_of_mem_drop.{u}
abbrev pq.{u}:=@List.pairwise_append.{u}
abbrev pu:=@Go.Proofs.Tryz.underlying256
abbrev pz.{u}:=@List.size_toArray.{u}
abbrev qa:=@Nat.add_zero
abbrev qb:=@Go.Proofs.Tryz.func30
abbrev qc.{u}:=@List.getElem?_drop.{u}
abbrev qd:=@Nat.add_assoc
abbrev qf:=@Nat.sub_add_cancel
abbrev qg:=@Go.Proofs.Tryz.underlying281
abbrev qh.{u}:=@Array.getElem?_toList.{u}
abbrev qi.{u,v}:=@List.map_nil.{u,v}
abbrev qj:=@Bool.and_eq_true
abbrev ql.{u}:=@List.pairwise_singleton.{u}
abbrev qm.{u}:=@List.flatten_cons.{u}
abbrev qo.{u,v}:=@List.getElem?_map.{u,v}
abbrev qp.{u}:=@List.take_add_one.{u}
abbrev qw:=@Go.Proofs.Tryz.underlying106
abbrev qx:=@Go.Proofs.Tryz.underlying250
abbrev qy:=@Nat.mul_one
abbrev qz.{u}:=@List.filter_append.{u}
abbrev rf.{u,v}:=@List.map_toArray.{u,v}
abbrev rq:=@Go.Proofs.Tryz.underlying228
abbrev ry.{u}:=@List.append_toArray.{u}
abbrev rz.{u}:=@List.filter_sublist.{u}
abbrev si.{u}:=@List.length_flatten.{u}
abbrev sj:=@Int.emod_eq_of_lt
abbrev su.{u}:=@List.ext_getElem?.{u}
abbrev sw:=@Nat.le_trans
abbrev tq.{u,v,w}:=@getElem!_pos.{u,v,w}
abbrev uf:=@decide_eq_false_iff_not
abbrev ug:=@Nat.mul_le_mul_right
abbrev uh:=@Nat.zero_le
abbrev ui:=@Int.mul_assoc
abbrev uj:=@Go.Proofs.Tryz.underlying279
abbrev uk.{u}:=@List.drop_of_length_le.{u}
abbrev ul.{u}:=@List.take_length.{u}
abbrev um.{u}:=@Array.toList_append.{u}
abbrev uo.{u}:=@Array.getElem?_modify.{u}
abbrev uq:=@Int.pow_nonneg
abbrev ut.{u}:=@List.nodup_cons.{u}
abbrev uu:=@Bool.false_eq_true
abbrev uy.{u}:=@Array.replicate_succ.{u}
abbrev uz.{u}:=@Array.replicate_zero.{u}
abbrev ve.{u}:=@List.ext_getElem.{u}
abbrev vg.{u}:=@List.length_eq_zero_iff.{u}
abbrev vk:=@List.nodup_range
abbrev vo:=@Go.Proofs.Tryz.underlying123
abbrev vv:=@Int.pow_zero
abbrev vw.{u}:=@List.getElem?_set.{u}
abbrev vz.{u}:=@List.nodup_append.{u}
abbrev wh:=@Nat.add_comm
abbrev wo:=@Nat.lt_trichotomy
abbrev wu.{u}:=@if_false.{u}
abbrev ww:=@Nat.eq_of_beq_eq_true
abbrev wz:=@Int.emod_lt_of_pos
abbrev xc.{u}:=@List.all_eq_true.{u}
abbrev xe:=@Int.pow_succ
abbrev xg.{u}:=@List.sum_cons.{u}
abbrev xh.{u,v}:=@Prod.mk.injEq.{u,v}
abbrev xk.{u}:=@List.take_zero.{u}
abbrev xm:=@Nat.add_mul
abbrev xq.{u}:=@List.push_toArray.{u}
abbrev xu:=@Nat.min_eq_left
abbrev xw.{u}:=@Array.getD_eq_getD_getElem?.{u}
abbrev xx.{u}:=@List.drop_eq_nil_of_le.{u}
abbrev xz.{u,v,w}:=@List.map_map.{u,v,w}
abbrev yc:=@Nat.sub_zero
abbrev yf.{u}:=@List.not_mem_nil.{u}
abbrev yg:=@Nat.mod_lt
abbrev yh:=@Int.ediv_lt_of_lt_mul
abbrev yj.{u}:=@List.length_filter_le.{u}
abbrev yl.{u}:=@List.perm_append_comm.{u}
abbrev ym:=@Int.emod_nonneg
abbrev yo:=@List.range_succ
abbrev yt:=@Decidable.not_not
abbrev yu:=@Int.add_zero
abbrev yw:=@Int.pow_add
abbrev yx.{u}:=@List.drop_sublist.{u}
abbrev yz:=@decide_eq_true_eq
abbrev za:=@Go.run_sliceAt_slice
abbrev ze:=@Go.Proofs.Tryz.underlying84
abbrev zf:=@Go.Proofs.Tryz.underlying146
abbrev zg:=@List.getElem?_range
abbrev zh:=@Int.mul_nonneg
abbrev zi:=@Int.natCast_emod
abbrev zk.{u}:=@List.getElem?_replicate.{u}
abbrev zl:=@decide_eq_decide
abbrev zm:=@true_and
abbrev zo:=@Int.le_ediv_iff_mul_le
abbrev zq:=@Nat.mod_eq_sub_mod
abbrev zt:=@Nat.mul_comm
abbrev zu:=@Go.Proofs.Tryz.underlying167
abbrev zw.{u}:=@Array.getElem?_setIfInBounds.{u}
abbrev zx:=@Bool.or_eq_true
abbrev zy:=@Int.natCast_mul
abbrev zz.{u,v}:=@Option.map_none.{u,v}
abbrev Aa:=@and_true
abbrev Ab:=@Go.Addr.mk.injEq
abbrev Ae:=@Go.callsIn_of_wp
abbrev Af:=@Go.Proofs.Tryz.underlying117
abbrev Ag:=@Go.wpIn_mono
abbrev Ah.{u}:=@Array.getElem?_append.{u}
abbrev Ai.{u}:=@List.getElem_take.{u}
abbrev Aj:=@Go.Proofs.Tryz.zeroValue167
abbrev Ak:=@of_decide_eq_true
abbrev Al:=@Go.DataW.trod_int
abbrev Am:=@Int.fdiv_eq_ediv_of_nonneg
abbrev Ao:=@Int.mul_one
abbrev Aq.{u}:=@List.take_left.{u}
abbrev Ar:=@Go.Proofs.Tryz.underlying4
abbrev Au:=@Int.natCast_zero
abbrev Av:=@Go.IntKind.wrap_i64
abbrev Ay.{u,v}:=@List.getElem_map.{u,v}
abbrev Az.{u}:=@List.mem_flatten.{u}
abbrev Ba.{u}:=@List.mem_reverse.{u}
abbrev Bb:=@Nat.le_add_right
abbrev Bc:=@Nat.sub_self
abbrev Be:=@Go.Proofs.Tryz.underlying3
abbrev Bf.{u}:=@List.countP_eq_zero.{u}
abbrev Bg.{u}:=@List.drop_succ_cons.{u}
abbrev Bh.{u}:=@List.getElem_set_ne.{u}
abbrev Bi.{u,v}:=@List.map_congr_left.{u,v}
abbrev Bj.{u}:=@List.length_erase_of_mem.{u}
abbrev Bl.{u,v}:=@List.map_take.{u,v}
abbrev Bn:=@UInt8.toNat_ofNat_of_lt'
abbrev Bo:=@Go.Proofs.Tryz.underlying167
abbrev Bp:=@Go.Proofs.Tryz.underlying248
abbrev Bq.{u}:=@List.sum_append.{u}
abbrev Br:=@Go.Result.ok.injEq
abbrev Bt:=@Go.Proofs.Tryz.zeroValue3
abbrev Bu:=@BitVec.toNat_ofInt
abbrev Bv:=@Nat.lt_or_gt_of_ne
abbrev Bw:=@Nat.mul_div_cancel
abbrev Bz.{u}:=@Option.toList_some.{u}
abbrev Ca:=@Go.Proofs.Tryz.underlying112
abbrev Cb:=@Go.Proofs.Tryz.underlying123
abbrev Cc.{u}:=@List.getElem?_cons_succ.{u}
abbrev Ce:=@Nat.one_mul
abbrev Cf.{u,v}:=@Option.bind_eq_some_iff.{u,v}
abbrev Cg:=@Go.Proofs.Tryz.func62
abbrev Ch.{u}:=@List.set_eq_take_append_cons_drop.{u}
abbrev Ci.{u}:=@Array.getElem?_eq_none.{u}
abbrev Cj:=@Int.mul_comm
abbrev Ck.{u,v}:=@List.flatMap_cons.{u,v}
abbrev Cm.{u}:=@List.isEmpty_cons.{u}
abbrev Cn.{u}:=@List.length_pos_of_mem.{u}
abbrev Co:=@Nat.le_mul_of_pos_left
abbrev Cq:=@Go.Proofs.Tryz.sizeOf167
abbrev Cr:=@Go.Proofs.Tryz.zeroValue112
abbrev Cs:=@Go.Proofs.Tryz.zeroValue123
abbrev Cu:=@not_false_eq_true
abbrev Cv:=@Go.Proofs.Tryz.underlying47
abbrev Cw.{u}:=@List.replicate_append_replicate.{u}
abbrev Cx.{u}:=@List.Perm.append_left.{u}
abbrev Cy.{u}:=@List.countP_mono_left.{u}
abbrev Cz.{u}:=@List.set_append_right.{u}
abbrev Da:=@Nat.and_two_pow_sub_one_eq_mod
abbrev Db:=@Nat.div_eq_of_lt
abbrev Dc:=@Go.Proofs.Tryz.underlying0
abbrev De:=@Go.Proofs.Tryz.underlying4
abbrev Dg:=@Go.Proofs.Tryz.underlying5
abbrev Dh:=@Go.Proofs.Tryz.underlying9
abbrev Di:=@Bool.not_true
abbrev Dj:=@Go.Proofs.Tryz.isAgg167
abbrev Dk:=@Go.Proofs.Tryz.underlying185
abbrev Dl:=@Go.Proofs.Tryz.underlying350
abbrev Dm.{u}:=@Classical.not_forall.{u}
abbrev Dn:=@Int.mul_le_mul_of_nonneg_left
abbrev Dp:=@Int.pow_pos
abbrev Dq.{u}:=@List.findIdx_getElem.{u}
abbrev Dr.{u}:=@List.getElem_reverse.{u}
abbrev Dt.{u}:=@List.mem_append_left.{u}
abbrev Du.{u}:=@List.mem_erase_of_ne.{u}
abbrev Dv.{u}:=@List.take_append_of_le_length.{u}
abbrev Dw:=@Nat.pow_le_pow_right
abbrev Dx:=@Int.ediv_nonneg
abbrev Dy:=@Int.natCast_pow
abbrev Dz.{u}:=@List.drop_left'.{u}
abbrev Ea.{u}:=@List.length_set.{u}
abbrev Eb.{u}:=@List.take_left'.{u}
abbrev Ec:=@Go.Proofs.Tryz.zeroValue0
abbrev Ed:=@Go.Proofs.Tryz.zeroValue4
abbrev Ee:=@Go.Proofs.Tryz.zeroValue5
abbrev Ef:=@Go.Proofs.Tryz.zeroValue9
abbrev Eg.{u}:=@List.filter_eq_self.{u}
abbrev Eh.{u}:=@List.take_succ_cons.{u}
abbrev Ei:=@Go.run_callFunc_extern
abbrev Ej:=@Int.le_of_lt
abbrev El.{u}:=@List.attach_map_subtype_val.{u}
abbrev Em:=@Nat.succ_mul
abbrev En:=@Nat.two_pow_add_eq_or_of_lt
abbrev Eo:=@Nat.zero_mul
abbrev Ep:=@Go.Proofs.Tryz.sizeOf3
abbrev Er:=@Go.run_call_add
abbrev Es:=@Go.RowKit.Below.refl
abbrev Et:=@Int.lt_or_eq_of_le
abbrev Eu.{u}:=@List.drop_left.{u}
abbrev Ev.{u}:=@List.drop_zero.{u}
abbrev Ew.{u}:=@List.set_cons_zero.{u}
abbrev Ex:=@Nat.mul_le_mul
abbrev Ey:=@Go.Proofs.Tryz.sizeOf112
abbrev Ez:=@Go.Proofs.Tryz.sizeOf123
abbrev Fa:=@Go.Proofs.Tryz.underlying288
abbrev Fb:=@Go.Proofs.Tryz.underlying289
abbrev Fe:=@Go.Proofs.Tryz.underlying316
abbrev Ff:=@Go.Proofs.Tryz.underlying320
abbrev Fg:=@Go.Proofs.Tryz.underlying337
abbrev Fh:=@Go.Proofs.Tryz.underlying338
abbrev Fj:=@Go.grownCap_le_maxLen
abbrev Fp.{u}:=@Array.all_eq_true.{u}
abbrev Fq.{u}:=@Array.getElem_mem.{u}
abbrev Fs.{u}:=@List.countP_congr.{u}
abbrev Fu.{u,v}:=@List.foldl_append.{u,v}
abbrev Fv.{u}:=@List.getElem_drop.{u}
abbrev Fw.{u}:=@List.idxOf_append.{u}
abbrev Fx:=@List.length_range
abbrev Fy:=@Nat.le_succ
abbrev Fz.{u}:=@Ne.symm.{u}
abbrev Ga:=@Go.Proofs.Tryz.func36
abbrev Gb:=@Go.Proofs.Tryz.func84
abbrev Gc:=@Go.Proofs.Tryz.isAgg3
abbrev Gf:=@Go.Proofs.Tryz.underlying97
abbrev Gg:=@Go.Proofs.Tryz.zeroValue288
abbrev Gh:=@Go.Proofs.Tryz.zeroValue289
abbrev Gi:=@Go.Proofs.Tryz.zeroValue316
abbrev Gj:=@Go.Proofs.Tryz.zeroValue320
abbrev Gl:=@Go.Proofs.Tryz.zeroValue337
abbrev Gm:=@Go.Proofs.Tryz.zeroValue338
abbrev Gn:=@Go.Proofs.Tryz.underlying9
abbrev Gp:=@Bool.false_or
abbrev Gq.{u}:=@List.all_cons.{u}
abbrev Gr.{u,v}:=@List.map_drop.{u,v}
abbrev Gs.{u}:=@List.take_add.{u}
abbrev Gt:=@Go.Proofs.Tryz.isAgg112
abbrev Gu:=@Go.Proofs.Tryz.isAgg123
abbrev Gv:=@Go.Proofs.Tryz.underlying114
abbrev Gw:=@Go.Proofs.Tryz.underlying203
abbrev Gx:=@Int.ediv_le_self
abbrev Gy:=@Go.IntKind.wrap_u64
abbrev Gz.{u}:=@List.drop_length.{u}
abbrev Ha.{u}:=@List.flatten_nil.{u}
abbrev Hd.{u,v}:=@List.map_reverse.{u,v}
abbrev He.{u,v}:=@List.mem_flatMap.{u,v}
abbrev Hf:=@Go.Proofs.Tryz.zeroValue97
abbrev Hg:=@Int.le_trans
abbrev Hl:=@Int.sub_self
abbrev Hm:=@Int.sub_zero
abbrev Ho:=@Int.zero_mul
abbrev Hq.{u}:=@List.sum_nil.{u}
abbrev Hr:=@Nat.not_lt
abbrev Ht:=@Go.Proofs.Tryz.func130
abbrev Hu:=@Go.Proofs.Tryz.func134
abbrev Hw:=@Go.Proofs.Tryz.func149
abbrev Hy:=@Go.Proofs.Tryz.func158
abbrev Hz:=@Go.Proofs.Tryz.func159
abbrev Ia:=@Go.Proofs.Tryz.func161
abbrev Ib:=@Go.Proofs.Tryz.func194
abbrev Ic:=@Go.Proofs.Tryz.sizeOf0
abbrev Ie:=@Go.Proofs.Tryz.sizeOf4
abbrev Ig:=@Go.Proofs.Tryz.sizeOf5
abbrev Ih:=@Go.Proofs.Tryz.sizeOf9
abbrev Ii.{u}:=@if_true.{u}
abbrev Ij:=@Go.setRow_other
abbrev Il:=@BitVec.toNat_or
abbrev Im:=@Go.IntKind.wrap_u8
abbrev Io.{u}:=@List.cons.injEq.{u}
abbrev Iq:=@Int.add_mul
abbrev Ir:=@Int.mul_add
abbrev Iu:=@Nat.add_mod
abbrev Iw:=@Nat.mul_pos
abbrev Iy:=@Go.Proofs.Tryz.func41
abbrev Iz:=@Go.Proofs.Tryz.func58
abbrev Ja:=@Go.Proofs.Tryz.func61
abbrev Jb:=@Go.Proofs.Tryz.func74
abbrev Jc:=@Go.Proofs.Tryz.func91
abbrev Jd:=@Go.Proofs.Tryz.isAgg0
abbrev Je:=@Go.Proofs.Tryz.isAgg4
abbrev Jf:=@Go.Proofs.Tryz.isAgg5
abbrev Jg:=@Go.Proofs.Tryz.isAgg9
abbrev Jh:=@Go.setRow_heap
theorem G{p:Prop}(h:p:=by omega):p:=h
theorem cA{p:Prop}(h:p:=by kernel_rfl):p:=h
theorem cC{p:Prop}(h:p:=by decide):p:=h
theorem cD{p:Prop}(h:p:=by simp):p:=h
theorem cE{p:Prop}(h:p:=by first |assumption|omega|decide):p:=h
theorem cF{p:Prop}(h:p:=by assumption):p:=h
theorem cG{p:Prop}(h:p:=by simp;omega):p:=h
theorem cH{p:Prop}(h:p:=by first |omega|(dsimp only;omega)):p:=h
end Go
namespace Go.Eng
theorem Z.{u} {α:Sort u} {a:α}:a=a:=rfl
end Go.Eng
namespace Go.Eng
open Go Go.RowKit
abbrev Env:=List (Nat × Value)
def lk:Env->Nat->Option Value
 |[],_=>none
 |(k,v)::r,t=>bif Nat.beq k t then some v else lk r t
def ev (L:Env):Operand->Option Value
 | .tmp t=>lk L t
 | .const v=>some v
 | .global g=>some (.pointer (some ⟨g,0,none⟩))
 | .func f=>some (.func (.func f) #[] #[])
structure Nd where
 n:Nat
 ds:List Deferred
 rd:Option Nat:=none
def NF (rd:Option Nat):Fence:= {Fence.wide with round:=rd}
def yU (o:Oper):Bool:=match o.op with| .defer _=>false|_=>true
def yV:Option Nat->List Oper->Bool
 |none,_=>true
 |some _,l=>l.all yU
theorem aNw {P:Program} {rd:Option Nat} {o:Oper} {a:Act} {w:World} {K:Act->World->Prop} {Q:Exit->Act->World->Prop} (hd:rd=none\/yU o=true) (h:o.wp P a w K Q):o.wpIn (NF rd) 0 P a w K Q:=by
  refine⟨λ_ _=>trivial,?_⟩
  have e:o.semAt (NF rd).round a.eval=execOp a.eval o:=by
    rcases hd with rfl|hd
    · exact Oper.semAt_none _ _
    · exact Oper.semAt_eq _ _ _ (λc hc=>by simp[yU,hc] at hd)
  rw[e];unfold Oper.wp at h;generalize (execOp a.eval o).run P w=r at*;cases r with
  | ok x w'=>
    cases x<;>simp only[Oper.upon,Oper.uponIn] at h ⊢
    all_goals first
      |exact h
      |exact h.elim
      | (refine ⟨λh0=>(by cases h0),?_⟩
         exact callsIn_wide (n:=0).2 h)
      | (refine ⟨λh0=>(by cases h0),?_⟩
         intro c cs _;obtain⟨v,Md,hR,hs⟩:=h c cs
         exact⟨v,Md,hR,stepsIn_wide.2 hs⟩)
  |halt x w'=>cases x<;>simp only[Oper.upon,Oper.uponIn] at h ⊢ <;>exact h
theorem ZP {P:Program} {rd:Option Nat} {ops:Array Oper} {Q:Exit->Act->World->Prop} (hq: ¬LetsOut Q): ∀(l:List Oper) (a:Act) (w:World),yV rd l=true->wpList P ops Q l a w->wpListIn (NF rd) 0 P ops Q l a w
 |[],_,_,_,h=>h
 | o::l,a,w,hd,h=>by
  have l6:rd=none\/yU o=true:=by
   cases rd with
   |none=>exact .inl rfl
   |some _=>simp only[yV,Gq,qj] at hd;exact .inr hd.1
  have Kt:yV rd l=true:=by
   cases rd with
   |none=>rfl
   |some _=>simp only[yV,Gq,qj] at hd;exact hd.2
  unfold wpList at h;unfold wpListIn;split
  ·rename_i hw;rw[cu hw] at h;rcases h with h|h
   ·exact aNw l6 (Oper.wp_mono (λa w h=>ZP hq l a w Kt h) h)
   ·exact absurd h.2 hq
  ·rename_i hw;rw[bu hw] at h;exact⟨λ_ _=>trivial,ZP hq l _ _ Kt h⟩
theorem XH {P:Program} {rd:Option Nat} {ops:Array Oper} {Q:Exit->Act->World->Prop} (hq: ¬LetsOut Q) (hd:yV rd ops.toList=true): ∀(fuel:Nat) (ab:Array Bool) (a:Act) (w:World),wpAny P .any ops Q fuel ab a w->wpAnyIn (NF rd) 0 P .any ops Q fuel ab a w
 |0,_,_,_,h=>h
 | fuel+1,ab,a,w,h=>by
  refine⟨h.1,λi hi=> ?_⟩;have h1:=h.2 i hi;unfold wpOp at h1;unfold wpOpIn;cases ho:ops[i]? with
  |none=>simp only[ho] at h1 ⊢;exact XH hq hd fuel _ _ _ h1
  | some o=>
   simp only[ho] at h1 ⊢
   have l6:rd=none\/yU o=true:=by
    cases rd with
    |none=>exact .inl rfl
    |some _=>exact .inr (xc.1 hd o (Array.mem_toList_iff.2 (Array.mem_of_getElem? ho)))
   split
   ·rename_i hw;rw[cu hw] at h1;rcases h1 with h1|h1
    ·exact aNw l6 (Oper.wp_mono (λa w h=>XH hq hd fuel _ a w h) h1)
    ·exact absurd h1.2 hq
   ·rename_i hw;rw[bu hw] at h1;exact⟨λ_ _=>trivial,XH hq hd fuel _ _ _ h1⟩
instance:Coe Nd Nat:=⟨Nd.n⟩
instance:Coe Nat Nd:=⟨λn=>⟨n,[],none⟩⟩
structure Sat (n:Nd) (L:Env) (a:Act):Prop where
 size:a.tmps.size=n.n
 defers:a.defers=n.ds
 val: ∀t v,lk L t=some v->a.tmps[t]? =some v
theorem Sat.getD {n:Nd} {L:Env} {a:Act} (h:Sat n L a) {t:Nat} {v:Value} (hx:lk L t=some v):a.tmps.getD t undef=v:=by
 rw[xw,h.val t v hx];rfl
theorem Sat.ev {n:Nd} {L:Env} {a:Act} (h:Sat n L a) {x:Operand} {v:Value} (hx:ev L x=some v):a.eval x=v:=by
 cases x with
 |tmp t=>exact h.getD hx
 |const u=>exact iw hx
 |global g=>exact iw hx
 |func f=>exact iw hx
theorem vO {L:Env} {k t:Nat} {v u:Value} (h:lk ((k,v)::L) t=some u):(k=t/\v=u)\/(k≠t/\lk L t=some u):=by
 unfold lk at h;cases hb:Nat.beq k t with
 |true=>rw[hb] at h;exact .inl ⟨ww hb,iw h⟩
 |false=>rw[hb] at h;exact .inr ⟨Nat.ne_of_beq_eq_false hb,h⟩
theorem Sat.put {n:Nd} {L:Env} {a:Act} (h:Sat n L a) {d:Nat} (hd:Nat.blt d n=true) (v:Value):Sat n ((d,v)::L) (a.put (some d) v):=by
 have hd':d<n:=au hd;refine⟨by simp[Act.put,h.size],by simp[Act.put,h.defers],λt u hu=> ?_⟩;rcases vO hu with⟨rfl,rfl⟩|⟨da,hl⟩
 ·simp[Act.put,h.size,hd']
 ·rw [<-h.val t u hl];simp[Act.put,da]
def Sub (L1 L:Env):Prop:= ∀t v,lk L1 t=some v->lk L t=some v
theorem Sub.nil {L:Env}:Sub [] L:=λt v h=>by simp[lk] at h
theorem Sub.cons {L1 L:Env} {t:Nat} {v:Value} (h:lk L t=some v) (hs:Sub L1 L):Sub ((t,v)::L1) L:=by
 intro s u hu;rcases vO hu with⟨rfl,rfl⟩|⟨_,hl⟩
 ·exact h
 ·exact hs s u hl
theorem Sub.refl (L:Env):Sub L L:=λ_ _ h=>h
theorem Sat.sub {n:Nd} {L L1:Env} {a:Act} (h:Sat n L a) (hs:Sub L1 L):Sat n L1 a:=⟨h.size,h.defers,λt v ht=>h.val t v (hs t v ht)⟩
structure Row where
 e:TypeId
 sz:Nat
 A:Option Addr
 n:Nat
 c:Nat
 xs:List Value
 ro:Bool:=false
def Row.lies (B:Nat) (w:World) (r:Row):Prop:=
 match r.ro with
 |false=>w.ownsRow B r.e r.sz (.slice r.A r.n r.c) r.n r.xs
 |true=> ∃g cur fr,r.A=some ⟨g,0,none⟩/\B<=g/\w.heap[g]? =some (.cells cur r.e fr)/\r.n<=maxLen/\r.n<=r.c/\r.xs.length=r.n*r.sz/\cur.toList.take (r.n*r.sz)=r.xs
def Row.apart (r r':Row):Prop:= ∀a a',r.A=some a->r'.A=some a'->a.block≠a'.block
theorem Row.apart_symm {r r':Row} (h:r.apart r'):r'.apart r:=λa a' h1 h2=>Fz (h a' a h2 h1)
def UE:Obj->Bool
 | .cells .. =>false
 |_=>true
def Late (w0 w:World):Prop:=w0.drawn<=w.drawn/\ ∀(k:Nat) (o:Obj),w0.heap[k]? =some o->UE o=true->w.heap[k]? =some o
theorem Late.refl (w:World):Late w w:=⟨dh _,λ_ _ h _=>h⟩
theorem Late.trans {w0 w w':World} (h:Late w0 w) (h':Late w w'):Late w0 w':=⟨sw h.1 h'.1,λk o h1 h2=>h'.2 k o (h.2 k o h1 h2) h2⟩
theorem Late.draws {w:World} {k:Nat} (h:w.drawn<=k):Late w {w with drawn:=k}:=⟨h,λ_ _ h _=>h⟩
theorem Late.alloc (w:World) (o:Obj):Late w (w.alloc o):=⟨dh _,λk _ h _=>by
 have aw:k<w.heap.size:=(dz.1 h).1;unfold World.alloc;rw[Array.getElem?_push,bu G]
 exact h⟩
structure Hp (B:Nat) (w0 w:World) (R:List Row):Prop where
 below:Below B w0 w
 base:B<=w.heap.size
 own: ∀r∈R,r.lies B w
 apart:R.Pairwise Row.apart
 late:Late w0 w
theorem Hp.refl (w:World):Hp w.heap.size w w []:=⟨Es _ _,dh _,λ_ h=>(by cases h), .nil,Late.refl _⟩
theorem Hp.tail {B:Nat} {w0 w:World} {r:Row} {R:List Row} (h:Hp B w0 w (r::R)):Hp B w0 w R:=
 ⟨h.below,h.base,λq hq=>h.own q (.tail _ hq),(iv.1 h.apart).2,h.late⟩
theorem Hp.right {B:Nat} {w0 w:World} {R' R:List Row} (h:Hp B w0 w (R'++R)):Hp B w0 w R:=by
 induction R' with
 |nil=>exact h
 |cons r R' ih=>exact ih h.tail
theorem Hp.perm {B:Nat} {w0 w:World} {R R':List Row} (h:Hp B w0 w R) (hp:R.Perm R'):Hp B w0 w R':=
 ⟨h.below,h.base,λq hq=>h.own q (hp.mem_iff.2 hq),hp.pairwise h.apart Row.apart_symm,h.late⟩
theorem Hp.sublist {B:Nat} {w0 w:World} {R R':List Row} (h:Hp B w0 w R) (hs:R'.Sublist R):Hp B w0 w R':=
 ⟨h.below,h.base,λq hq=>h.own q (hs.subset hq),h.apart.sublist hs,h.late⟩
theorem Hp.sel {B:Nat} {w0 w:World} {R:List Row} (h:Hp B w0 w R) (is:List Nat) (hn:is.Nodup) {R':List Row} (hR:is.map (λi=>R[i]?)=R'.map some):Hp B w0 w R':=by
 refine⟨h.below,h.base,λq hq=> ?_,?_,h.late⟩
 ·have h1:some q∈R'.map some:=il.2 ⟨q,hq,rfl⟩;rw[<-hR] at h1;obtain⟨i,_,hi⟩:=il.1 h1;exact h.own q (ek hi)
 ·have h1:(R'.map some).Pairwise (λx y=> ∀r r',x=some r->y=some r'->Row.apart r r'):=by
   rw[<-hR];refine ik.2 (hn.imp ?_);intro i j da r r' hi hj;rcases Bv da with aw|aw
   ·exact di.1 h.apart i j (dn.1 hi).1 (dn.1 hj).1 aw|>λhh=>by
     rw[(dn.1 hi).2,(dn.1 hj).2] at hh;exact hh
   ·exact Row.apart_symm (di.1 h.apart j i (dn.1 hj).1 (dn.1 hi).1 aw|>λhh=>by
     rw[(dn.1 hi).2,(dn.1 hj).2] at hh;exact hh)
  exact(ik.1 h1).imp λhh=>hh _ _ rfl rfl
theorem Hp.drawn {B:Nat} {w0 w:World} {R:List Row} (h:Hp B w0 w R) (k:Nat) (hk:w.drawn<=k):Hp B w0 {w with drawn:=k} R:=
 ⟨⟨h.below.os,h.below.tape,h.below.output,h.below.size,h.below.block⟩,h.base,λr hr=>by
  have:=h.own r hr;unfold Row.lies at*
  cases li:r.ro<;>simp only[li] at this ⊢ <;>exact this,h.apart,h.late.trans (Late.draws hk)⟩
theorem Row.lies_cells {B:Nat} {w:World} {r:Row} (h:r.lies B w) {a:Addr} (ha:r.A=some a): ∃cs e fr,w.heap[a.block]? =some (.cells cs e fr):=by
 unfold Row.lies at h;cases li:r.ro with
 | false=>
  simp only[li] at h;rcases h.2 with⟨hv,_⟩|⟨g,cap,cur,hv,_,hg,_⟩
  ·simp only[jq] at hv;rw[hv.1] at ha;cases ha
  ·simp only[jq] at hv;rw[hv.1] at ha;obtain rfl:=iw ha;exact⟨_,_,_,hg⟩
 |true=>
  simp only[li] at h;obtain⟨g,cur,fr,hA,_,hg,_⟩:=h;rw[hA] at ha;obtain rfl:=iw ha;exact⟨_,_,_,hg⟩
theorem Row.lies_of_block {B:Nat} {w w':World} {r:Row} (h:r.lies B w) (hk: ∀a,r.A=some a->w'.heap[a.block]? =w.heap[a.block]?):r.lies B w':=by
 unfold Row.lies at*;cases li:r.ro with
 | false=>
  simp only[li] at h ⊢;refine⟨h.1,?_⟩;rcases h.2 with hn|⟨g,cap,cur,hv,hb,hg,rest⟩
  ·exact .inl hn
  ·refine .inr ⟨g,cap,cur,hv,hb,?_,rest⟩;have hA:r.A=some ⟨g,0,none⟩:=by injection hv
   rw[hk _ hA];exact hg
 |true=>
  simp only[li] at h ⊢;obtain⟨g,cur,fr,hA,hb,hg,rest⟩:=h;exact⟨g,cur,fr,hA,hb,by rw[hk _ hA];exact hg,rest⟩
theorem Row.lies_lt {B:Nat} {w:World} {r:Row} (h:r.lies B w): ∀a,r.A=some a->B<=a.block/\a.block<w.heap.size:=by
 intro a ha;unfold Row.lies at h;cases li:r.ro with
 |false=>
  simp only[li] at h;exact h.lt a.block (by simp[Value.ownBlock,ha])
 |true=>
  simp only[li] at h;obtain⟨g,cur,fr,hA,hb,hg,_⟩:=h;rw[hA] at ha;obtain rfl:=iw ha;exact⟨hb,(dz.1 hg).1⟩
theorem Hp.join {B:Nat} {w0 w w':World} {R Rn:List Row} (h:Hp B w0 w R) (h':Hp w.heap.size w w' Rn):Hp B w0 w' (Rn++R):=by
 refine⟨h.below.trans (h'.below.mono h.base),sw h.base h'.base,λr hr=> ?_,?_,h.late.trans h'.late⟩
 ·rcases fw.1 hr with hr|hr
  ·have h1:=h'.own r hr;unfold Row.lies at*;cases li:r.ro with
   |false=>
    simp only[li] at h1 ⊢;refine⟨h1.1,?_⟩;rcases h1.2 with hn|⟨g,cap,cur,hv,hb,rest⟩
    ·exact .inl hn
    ·exact .inr ⟨g,cap,cur,hv,sw h.base hb,rest⟩
   |true=>
    simp only[li] at h1 ⊢;obtain⟨g,cur,fr,hA,hb,rest⟩:=h1;exact⟨g,cur,fr,hA,sw h.base hb,rest⟩
  ·have h1:=h.own r hr;exact Row.lies_of_block h1 λa ha=>h'.below.block a.block (Row.lies_lt h1 a ha).2
 ·refine pq.2 ⟨h'.apart,h.apart,λr hr q hq a a' ha ki=> ?_⟩;have h1:=(Row.lies_lt (h'.own r hr) a ha).1;have h2:=(Row.lies_lt (h.own q hq) a' ki).2;omega
theorem JV {α:Type}: ∀(a:Ask α) (w:World),w.drawn<=(w.ask a).2.drawn
 | .done _,_=>dh _
 | .ask what range k,w=>by
  unfold World.ask;simp only;split
  ·exact JV _ _
  ·exact sw (Fy _) (JV _ {w with drawn:=w.drawn+1})
theorem aLv (w:World) (c:Sys):w.drawn<=(w.sys c).2.drawn:=by
 have h:=JV (Kernel.perform c w.os) w;unfold World.sys;split
 ·exact dh _
 ·rename_i he;rw[he] at h;exact h
theorem aVr {ε α β:Type} {x:Except ε α} {f:α->Except ε β} {r:β} (h:Except.bind x f= .ok r): ∃a,f a= .ok r:=by
 cases x with
 |error e=>cases h
 |ok a=>exact⟨a,h⟩
theorem aFr {P:Program} {w:World} {b a:Addr} {u:TypeId} {v:Value} {c:Bool} {r:World × List Addr} (h:w.viewStore P b u a v c= .ok r):r.1.drawn=w.drawn:=by
 unfold World.viewStore at h;simp only[bind,pure,Except.pure] at h
 repeat' first
  |(cases h;done)
  |(split at h)
  |(replace h:=aVr h;cases h;rename_i h)
 all_goals (simp only[Except.ok.injEq] at h;rw[<-h])
theorem aPs {P:Program} {w:World} {a:Addr} {v:Value} {b:Bool} {r:World × List Addr} (h:w.farStore P a v b= .ok r):r.1.drawn=w.drawn:=by
 unfold World.farStore at h;split at h
 ·split at h
  ·rename_i hv;simp only[Except.ok.injEq] at h;rw[<-h];exact aFr hv
  ·cases h
 ·cases h
theorem FW {α:Type} {P:Program}: ∀(m:Sem α) (w w':World) (a:α),m.run P w= .ok a w'->w.drawn<=w'.drawn:=by
  intro m
  induction m with
  |pure a=>intro w w' b h;simp only[Sem.run,Br] at h;rw[h.2];exact dh _
  | load m a k ih=>
    intro w w' b h;simp only[Sem.run] at h;split at h
    · exact ih _ _ _ _ h
    · split at h
      · exact ih _ _ _ _ h
      · cases h
  | store m a v k ih=>
    intro w w' b h;cases v<;>simp only[Sem.run] at h
    all_goals first
      |(cases h;done)
      | (split at h
         · split at h
           · cases h
           · have h1:=ih _ _ _ h
             exact h1
         · split at h
           · rename_i hf
             have h1:=ih _ _ _ h;have h2:=aPs hf;simp only at h2;rw[h2] at h1;exact h1
           · cases h)
  |new o k ih=>intro w w' b h;have h1:=ih w.heap.size {w with heap:=w.heap.push o} w' b h;exact h1
  |shape r k ih=>intro w w' b h;exact ih _ _ _ _ h
  | freeze a n k ih=>
    intro w w' b h;have:=ih _ _ _ h;have e:(w.freeze a n).drawn=w.drawn:=by unfold World.freeze;split<;>rfl
    rwa[e] at this
  |frozen a k ih=>intro w w' b h;exact ih _ _ _ _ h
  | getObj r k ih=>
    intro w w' b h;simp only[Sem.run] at h;split at h
    · cases h
    · exact ih _ _ _ _ h
    · cases h
  | setObj r o k ih=>
    intro w w' b h;simp only[Sem.run] at h;split at h
    · cases h
    · have h1:=ih _ _ _ h
      exact h1
    · cases h
  | choose q k ih=>
    intro w w' b h;simp only[Sem.run] at h;split at h
    · exact ih _ _ _ _ h
    · exact sw (Fy _) (ih _ _ _ _ h)
  | sys c k ih=>
    intro w w' b h;exact sw (aLv w c) (ih _ _ _ _ h)
  |program k ih=>intro w w' b h;exact ih _ _ _ _ h
  |mark m k ih=>intro w w' b h;exact ih _ _ _ h
  |halt x=>intro w w' b h;cases h
structure Rd (w:World) (A:Option Addr) (n c sz:Nat) (xs:List Value):Prop where
 len:xs.length=n*sz
 max:n<=9223372036854775807
 le:n<=c
 at_: ∀j v,xs[j]? =some v-> ∃a,A=some a/\w.cell? (a.add j)=some v
def RdC (B:Nat) (w0:World) (R:List Row) (A:Option Addr) (n c sz:Nat) (xs:List Value):Prop:= ∀w,Hp B w0 w R->Rd w A n c sz xs
theorem Rd.below {w w':World} {A:Option Addr} {n c sz:Nat} {xs:List Value} (h:Rd w A n c sz xs) (hb:Below w.heap.size w w'):Rd w' A n c sz xs:=
 ⟨h.len,h.max,h.le,λj v hv=>by
  obtain⟨a,ha,hc⟩:=h.at_ j v hv
  exact⟨a,ha,(hb.cell (World.block_lt_of_cell? w _ hc)).trans hc⟩⟩
theorem Rd.c {w:World} {A:Option Addr} {n c sz:Nat} {xs:List Value} (h:Rd w A n c sz xs) (R:List Row):RdC w.heap.size w R A n c sz xs:=λ_ hw=>h.below hw.below
theorem Row.rd {B:Nat} {w:World} {r:Row} (h:r.lies B w):Rd w r.A r.n r.c r.sz r.xs:=by
 unfold Row.lies at h;cases li:r.ro with
 | false=>
  simp only[li] at h;refine⟨h.1,?_,?_,λj v hv=> ?_⟩
  ·rcases h.2 with⟨_,hn⟩|⟨g,cap,cur,_,_,_,h1,h2,_⟩
   ·omega
   ·unfold maxLen at h2;omega
  ·rcases h.2 with⟨_,hn⟩|⟨g,cap,cur,hv,_,_,h1,h2,_⟩
   ·omega
   ·simp only[jq] at hv;omega
  ·rcases h.2 with⟨My,hn⟩|⟨g,cap,cur,My,_⟩
   ·have:r.xs.length=0:=by rw[h.1,hn];omega
    rw[ll G] at hv;cases hv
   ·have hA:r.A=some ⟨g,0,none⟩:=by injection My
    exact⟨_,hA,h.cells (g:=g) (by simp[Value.ownBlock,hA]) j v hv⟩
 |true=>
  simp only[li] at h;obtain⟨g,cur,fr,hA,_,hg,hm,hc,hl,ht⟩:=h;unfold maxLen at hm;refine⟨hl,hm,hc,λj v hv=>⟨_,hA,?_⟩⟩;have Cd:(⟨g,0,none⟩:Addr).add j=⟨g,j,none⟩:=by unfold Addr.add;split<;>simp_all
  rw[Cd,cell_of_row w g j cur r.e fr hg];rw[<-ht,oh] at hv;split at hv
  ·simpa using hv
  ·cases hv
theorem rdR {B:Nat} {w0:World} {R:List Row} (i:Nat) {r:Row} (hi:R[i]? =some r):RdC B w0 R r.A r.n r.c r.sz r.xs:=λ_ hw=>Row.rd (hw.own r (ek hi))
theorem rdr {B:Nat} {w0:World} {R:List Row} (i:Nat) {e sz:Nat} {A:Option Addr} {n c:Nat} {xs:List Value} {ro:Bool} (hi:R[i]? =some ⟨e,sz,A,n,c,xs,ro⟩):RdC B w0 R A n c sz xs:=rdR i hi
theorem RdC.right {B:Nat} {w0:World} {R:List Row} {A:Option Addr} {n c sz:Nat} {xs:List Value} (h:RdC B w0 R A n c sz xs) (R':List Row):RdC B w0 (R'++R) A n c sz xs:=λw hw=>h w hw.right
theorem RdC.tail {B:Nat} {w0:World} {R:List Row} {A:Option Addr} {n c sz:Nat} {xs:List Value} (h:RdC B w0 R A n c sz xs) {r:Row}:RdC B w0 (r::R) A n c sz xs:=λw hw=>h w hw.tail
structure eH where
 nrm:Env->List Row->Prop
 ret:Env->List Row->Prop
 ext:Nat->Env->List Row->Prop
section
variable {P:Program} {n:Nd} {B:Nat} {w0:World}
def PQ (n:Nd) (B:Nat) (w0:World) (Q:eH):Exit->Act->World->Prop
 | .normal,a,w=> ∃L R,Sat n L a/\Hp B w0 w R/\Q.nrm L R
 | .ret,a,w=> ∃L R,Sat n L a/\Hp B w0 w R/\Q.ret L R
 | .exit i,a,w=> ∃L R,Sat n L a/\Hp B w0 w R/\Q.ext i L R
 |_,_,_=>False
def W (P:Program) (n:Nd) (B:Nat) (w0:World) (c:Code) (Q:eH) (L:Env) (R:List Row):Prop:=
 ∀a w,Sat n L a->Hp B w0 w R->c.wpIn (NF n.rd) 0 P (PQ n B w0 Q) a w
theorem aG {x y:Code} {Q:eH} {L:Env} {R:List Row} (h:W P n B w0 x {Q with nrm:=λL R=>W P n B w0 y Q L R} L R):W P n B w0 (.seq x y) Q L R:=by
 intro a w hs hp;refine wpIn_seq (Ag (h a w hs hp) ?_);intro e a' w' hq;cases e with
 |normal=>obtain⟨L',R',dg,bw,hw⟩:=hq;exact hw a' w' dg bw
 |exit id=>exact hq
 |goto l=>exact hq
 |ret=>exact hq
 |panic ch=>exact hq
 |outgrown=>exact hq
theorem aI {id:Nat} {c:Code} {Q:eH} {L:Env} {R:List Row} (h:W P n B w0 c {Q with ext:=λi L R=>bif Nat.beq i id then Q.nrm L R else Q.ext i L R} L R):W P n B w0 (.block id c) Q L R:=by
 intro a w hs hp;refine wpIn_block (Ag (h a w hs hp) ?_);intro e a' w' hq;cases e with
 |normal=>exact hq
 | exit i=>
  obtain⟨L',R',dg,bw,hw⟩:=hq;simp only[Exit.inBlock];by_cases hi:i=id
  ·subst hi;rw[cu rfl];exact⟨L',R',dg,bw,by simpa using hw⟩
  ·rw [bu hi]
   have hb:Nat.beq i id=false:=by
    cases hb:Nat.beq i id with
    |true=>exact absurd (ww hb) hi
    |false=>rfl
   dsimp only at hw;rw[hb] at hw;exact⟨L',R',dg,bw,hw⟩
 |goto l=>exact hq
 |ret=>exact hq
 |panic ch=>exact hq
 |outgrown=>exact hq
theorem aZ {id:Nat} {Q:eH} {L:Env} {R:List Row} (h:Q.ext id L R):W P n B w0 (.exit id) Q L R:=
 λ_ _ hs hp=>wpIn_exit ⟨L,R,hs,hp,h⟩
theorem dF {Q:eH} {L:Env} {R:List Row} (h:Q.ret L R):W P n B w0 .ret Q L R:=λ_ _ hs hp=>wpIn_ret ⟨L,R,hs,hp,h⟩
theorem aJ {Q:eH} {L:Env} {R:List Row} (h:Q.nrm L R):W P n B w0 .skip Q L R:=λ_ _ hs hp=>wpIn_skip ⟨L,R,hs,hp,h⟩
theorem FC {c:Operand} {x y:Code} {Q:eH} {L:Env} {R:List Row} {b:Bool} (hc:ev L c=some (.bool b)) (hx:b=true->W P n B w0 x Q L R) (hy:b=false->W P n B w0 y Q L R):W P n B w0 (.cond c x y) Q L R:=
 λa w hs hp=>wpIn_cond_split (hs.ev hc) (λhb=>hx hb a w hs hp) (λhb=>hy hb a w hs hp)
theorem bJ {c:Operand} {x y:Code} {Q:eH} {L:Env} {R:List Row} {p:Prop} [Decidable p] (hc:ev L c=some (.bool (decide p))) (hx:p->W P n B w0 x Q L R) (hy: ¬p->W P n B w0 y Q L R):W P n B w0 (.cond c x y) Q L R:=
 FC hc (λh=>hx (Ak h)) (λh=>hy (of_decide_eq_false h))
theorem bO {c:Operand} {x y:Code} {Q:eH} {L:Env} {R:List Row} (hc:ev L c=some (.bool true)) (hx:W P n B w0 x Q L R):W P n B w0 (.cond c x y) Q L R:=FC hc (λ_=>hx) (λh=>by cases h)
theorem aL {c:Operand} {x y:Code} {Q:eH} {L:Env} {R:List Row} (hc:ev L c=some (.bool false)) (hy:W P n B w0 y Q L R):W P n B w0 (.cond c x y) Q L R:=FC hc (λh=>by cases h) (λ_=>hy)
theorem aCm {c:Code} {Q:eH} {L L1:Env} {R R1:List Row} (hL:Sub L1 L) (hR: ∀w,Hp B w0 w R->Hp B w0 w R1) (h:W P n B w0 c Q L1 R1):W P n B w0 c Q L R:=
 λa w hs hp=>h a w (hs.sub hL) (hR w hp)
theorem gL {c:Code} {Q Q':eH} {L:Env} {R:List Row} (h:W P n B w0 c Q L R) (h1: ∀L R,Q.nrm L R->Q'.nrm L R) (h2: ∀L R,Q.ret L R->Q'.ret L R) (h3: ∀i L R,Q.ext i L R->Q'.ext i L R):W P n B w0 c Q' L R:=by
 intro a w hs hp;refine Ag (h a w hs hp) ?_;intro e a' w' hq;cases e with
 |normal=>obtain⟨L',R',dg,bw,hw⟩:=hq;exact⟨L',R',dg,bw,h1 _ _ hw⟩
 |exit id=>obtain⟨L',R',dg,bw,hw⟩:=hq;exact⟨L',R',dg,bw,h3 _ _ _ hw⟩
 |goto l=>exact hq
 |ret=>obtain⟨L',R',dg,bw,hw⟩:=hq;exact⟨L',R',dg,bw,h2 _ _ hw⟩
 |panic ch=>exact hq
 |outgrown=>exact hq
def Fam {σ:Type} (B:Nat) (w0:World) (Lx:σ->Env) (Rx:σ->List Row) (J:σ->Prop) (L:Env) (R:List Row):Prop:=
 ∃x,J x/\Sub (Lx x) L/\ ∀w,Hp B w0 w R->Hp B w0 w (Rx x)
theorem oN {σ:Type} {c:Code} {Q:eH} {L:Env} {R:List Row} (Lx:σ->Env) (Rx:σ->List Row) (J:σ->Prop) (μ:σ->Nat)
  (h0:Fam B w0 Lx Rx J L R)
  (round: ∀x,J x->W P n B w0 c {Q with nrm:=Fam B w0 Lx Rx (λy=>J y/\μ y<μ x)} (Lx x) (Rx x)):W P n B w0 (.loop c) Q L R:=by
 intro a w hs hp;obtain⟨x0,k4,Zw,Kf⟩:=h0;refine wpIn_loop_ghost (λk a w=> ∃x,μ x=k/\J x/\Sat n (Lx x) a/\Hp B w0 w (Rx x)) (μ x0) ⟨x0,rfl,k4,hs.sub Zw,Kf w hp⟩ ?_;rintro k a w ⟨x,rfl,hJ,hs,hp⟩;refine Ag (round x hJ a w hs hp) ?_;intro e a' w' hq;cases e with
 |normal=>
  obtain⟨L',R',dg,bw,y,⟨Zv,aw⟩,Zx,hRy⟩:=hq;exact⟨μ y,aw,y,rfl,Zv,dg.sub Zx,hRy _ bw⟩
 |exit id=>exact hq
 |goto l=>exact hq
 |ret=>exact hq
 |panic ch=>exact hq
 |outgrown=>exact hq
def Ct (P:Program) (f:FuncId) (args:Array Value) (B:Nat) (w0:World) (R:List Row) (Post:Value->List Row->Prop):Prop:=
 ∀w,Hp B w0 w R->Calls P f args w λe w'=> ∃v R',e= .returned v/\Hp B w0 w' R'/\Post v R'
theorem Ct.mono {f:FuncId} {args:Array Value} {R:List Row} {Post Hb:Value->List Row->Prop} (h:Ct P f args B w0 R Post) (hp: ∀v R',Post v R'->Hb v R'):Ct P f args B w0 R Hb:=
 λw hw=>(h w hw).mono λ_ _ ⟨v,R',he,hh,hv⟩=>⟨v,R',he,hh,hp _ _ hv⟩
theorem Ct.fresh {f:FuncId} {args:Array Value} {R:List Row} {Post:Value->List Row->Prop} (h: ∀w,Hp B w0 w R->Ct P f args w.heap.size w [] Post):
  Ct P f args B w0 R (λv R'=> ∃Rn,R'=Rn++R/\Post v Rn):=
 λw hw=>(h w hw w (Hp.refl w)).mono λ_ _ ⟨v,Rn,he,hh,hv⟩=>⟨v,Rn++R,he,hw.join hh,Rn,rfl,hv⟩
theorem Ct.sub {f:FuncId} {args:Array Value} {R R1:List Row} {Post:Value->List Row->Prop} (hR: ∀w,Hp B w0 w R->Hp B w0 w R1) (h:Ct P f args B w0 R1 Post):Ct P f args B w0 R Post:=
 λw hw=>h w (hR w hw)
def ini:Nat->List Value->Env
 |_,[]=>[]
 |k,v::vs=>(k,v)::ini (k+1) vs
theorem ZO: ∀(vs:List Value) (k t:Nat) (v:Value),lk (ini k vs) t=some v->k<=t/\vs[t-k]? =some v:=by
 intro vs
 induction vs with
 |nil=>intro k t v h;simp[ini,lk] at h
 | cons u us ih=>
  intro k t v h;rcases vO h with⟨rfl,rfl⟩|⟨_,hl⟩
  ·simp
  ·obtain ⟨h1,h2⟩:=ih (k+1) t v hl;refine⟨G,?_⟩;have:t-k=(t-(k+1))+1:=G
   rw[this];simpa using h2
theorem aEk {f:FuncId} {fn:Func} {c:Code} {args:List Value} {R:List Row} {Post:Value->List Row->Prop} (hf:P.funcs[f]? =some fn) (hb:fn.body=some c) (hl:Nat.ble args.length fn.ntmps=true)
  {Rt:Env->Option Value} (Fo: ∀L a w v,Sat fn.ntmps L a->Rt L=some v->(results fn a.tmps).run P w= .ok v w)
  (h:W P fn.ntmps B w0 c ⟨λL R'=> ∃v,Rt L=some v/\Post v R',λL R'=> ∃v,Rt L=some v/\Post v R',λ_ _ _=>False⟩ (ini 0 args) R):Ct P f args.toArray B w0 R Post:=by
 intro w hw;have me:args.length<=fn.ntmps:=au hl;refine calls_of_wp hf hb (wp_mono (wpIn_wide.1 (h _ w ⟨cG,rfl,λt v ht=> ?_⟩ hw)) ?_)
 ·obtain ⟨_,h2⟩:=ZO args 0 t v ht;simp only[yc] at h2;have aw:=(dn.1 h2).1;rw[<-h2];simp[Ah,aw]
 ·intro e a' w' hq;cases e with
  |normal=>obtain⟨L',R',dg,bw,v,hv,mn⟩:=hq;exact⟨dg.defers,v,Fo _ _ _ _ dg hv,v,R',rfl,bw,mn⟩
  |ret=>obtain⟨L',R',dg,bw,v,hv,mn⟩:=hq;exact⟨dg.defers,v,Fo _ _ _ _ dg hv,v,R',rfl,bw,mn⟩
  |exit id=>obtain⟨_,_,_,_,h⟩:=hq;exact h.elim
  |goto l=>exact hq
  |panic ch=>exact hq.elim
  |outgrown=>exact hq.elim
theorem fn0 {f:FuncId} {fn:Func} {c:Code} {args:List Value} {R:List Row} {Post:Value->List Row->Prop} (hf:P.funcs[f]? =some fn) (hb:fn.body=some c) (hr:fn.results= #[]) (hl:Nat.ble args.length fn.ntmps=true)
  (h:W P fn.ntmps B w0 c ⟨λ_ R'=>Post (.tuple #[]) R',λ_ R'=>Post (.tuple #[]) R',λ_ _ _=>False⟩ (ini 0 args) R):Ct P f args.toArray B w0 R Post:=
 aEk hf hb hl (Rt:=λ_=>some (.tuple #[])) (λ_ _ _ v _ hv=>by obtain rfl:=iw hv;exact results_none hr _ _ _) (by simpa using h)
theorem fn1 {f:FuncId} {fn:Func} {c:Code} {args:List Value} {R:List Row} {Post:Value->List Row->Prop} {r:Nat} (hf:P.funcs[f]? =some fn) (hb:fn.body=some c) (hr:fn.results= #[.tmp r]) (hl:Nat.ble args.length fn.ntmps=true)
  (h:W P fn.ntmps B w0 c ⟨λL R'=> ∃v,lk L r=some v/\Post v R',λL R'=> ∃v,lk L r=some v/\Post v R',λ_ _ _=>False⟩ (ini 0 args) R):Ct P f args.toArray B w0 R Post:=
 aEk hf hb hl (Rt:=λL=>lk L r) (λ_ _ _ v hs hv=>by rw[results_tmp hr,hs.getD hv]) h
theorem fn2 {f:FuncId} {fn:Func} {c:Code} {args:List Value} {R:List Row} {Post:Value->List Row->Prop} {r s:Nat} (hf:P.funcs[f]? =some fn) (hb:fn.body=some c) (hr:fn.results= #[.tmp r, .tmp s]) (hl:Nat.ble args.length fn.ntmps=true)
  (h:W P fn.ntmps B w0 c ⟨λL R'=> ∃v u,lk L r=some v/\lk L s=some u/\Post (.tuple #[v,u]) R',λL R'=> ∃v u,lk L r=some v/\lk L s=some u/\Post (.tuple #[v,u]) R',λ_ _ _=>False⟩ (ini 0 args) R):Ct P f args.toArray B w0 R Post:=by
 refine aEk hf hb hl (Rt:=λL=>(lk L r).bind λv=>(lk L s).map λu=> .tuple #[v,u]) (λL a w v hs hv=> ?_) (gL h ?_ ?_ (λ_ _ _ h=>h))
 ·obtain ⟨x,hx,hv⟩:=Cf.1 hv;obtain⟨u,hu,rfl⟩:=ib.1 hv;rw[results_tmp2 hr,hs.getD hx,hs.getD hu]
 ·rintro L R' ⟨v,u,hv,hu,hp⟩;exact⟨_,by simp[hv,hu],hp⟩
 ·rintro L R' ⟨v,u,hv,hu,hp⟩;exact⟨_,by simp[hv,hu],hp⟩
theorem fn3 {f:FuncId} {fn:Func} {c:Code} {args:List Value} {R:List Row} {Post:Value->List Row->Prop} {r s t:Nat} (hf:P.funcs[f]? =some fn) (hb:fn.body=some c) (hr:fn.results= #[.tmp r, .tmp s, .tmp t]) (hl:Nat.ble args.length fn.ntmps=true)
  (h:W P fn.ntmps B w0 c ⟨λL R'=> ∃v u x,lk L r=some v/\lk L s=some u/\lk L t=some x/\Post (.tuple #[v,u,x]) R',λL R'=> ∃v u x,lk L r=some v/\lk L s=some u/\lk L t=some x/\Post (.tuple #[v,u,x]) R',λ_ _ _=>False⟩ (ini 0 args) R):Ct P f args.toArray B w0 R Post:=by
 refine aEk hf hb hl (Rt:=λL=>(lk L r).bind λv=>(lk L s).bind λu=>(lk L t).map λx=> .tuple #[v,u,x]) (λL a w v hs hv=> ?_) (gL h ?_ ?_ (λ_ _ _ h=>h))
 ·obtain ⟨x,hx,hv⟩:=Cf.1 hv;obtain⟨u,hu,hv⟩:=Cf.1 hv;obtain⟨y,hy,rfl⟩:=ib.1 hv;simp[results,hr,hs.val r x hx,hs.val s u hu,hs.val t y hy]
 ·rintro L R' ⟨v,u,x,hv,hu,hx,hp⟩;exact⟨_,by simp[hv,hu,hx],hp⟩
 ·rintro L R' ⟨v,u,x,hv,hu,hx,hp⟩;exact⟨_,by simp[hv,hu,hx],hp⟩
def WR (P:Program) (n:Nd) (B:Nat) (w0:World) (ops:Array Oper) (l:List Oper) (K:Env->List Row->Prop) (L:Env) (R:List Row):Prop:=
 ∀a w (Q:Exit->Act->World->Prop),Sat n L a->Hp B w0 w R->(∀a' w' L' R',Sat n L' a'->Hp B w0 w' R'->K L' R'->Q .normal a' w')->wpList P ops Q l a w
theorem aCc {Q:eH}: ¬LetsOut (PQ n B w0 Q):=λ⟨_,_,h⟩=>h
theorem aM {id:Nat} {l:List Oper} {Q:eH} {L:Env} {R:List Row} (h:WR P n B w0 l.toArray l Q.nrm L R) (hd:yV n.rd l=true:=by exact rfl):W P n B w0 (.region id l.toArray false) Q L R:=
 λa w hs hp=>wpIn_region_lit (ZP aCc l a w hd (h a w _ hs hp λ_ _ L' R' dg bw hk=>⟨L',R',dg,bw,hk⟩))
variable {ops:Array Oper} {l:List Oper} {K:Env->List Row->Prop} {L:Env} {R:List Row} {op:Op} {ty:TypeId} {pos:String} {ml:Array Edge}
theorem aA (h:K L R):WR P n B w0 ops [] K L R:=λ_ _ _ hs hp hq=>wpList_nil (hq _ _ L R hs hp h)
def Yl (P:Program) (n:Nd) (B:Nat) (w0:World) (op:Op) (ty:TypeId) (L:Env) (R:List Row) (v:Value):Prop:=
 ∀(a:Act) (w:World) (o:Oper),o.op=op->o.type=ty->Sat n L a->Hp B w0 w R->(execOp a.eval o).run P w= .ok (.value v) w
def Ac (P:Program) (n:Nd) (B:Nat) (w0:World) (op:Op) (ty:TypeId) (L:Env) (R:List Row) (Post:Value->List Row->Prop):Prop:=
 ∀(a:Act) (w:World) (o:Oper) (K:Act->World->Prop) (Q:Exit->Act->World->Prop),o.op=op->o.type=ty->Sat n L a->Hp B w0 w R->(∀v w' R',Hp B w0 w' R'->Post v R'->K (a.put o.dst v) w')->o.wp P a w K Q
theorem XQ {d:Nat} {v:Value} (hn:Nat.blt d n=true) (hy:Yl P n B w0 op ty L R v) (h:WR P n B w0 ops l K ((d,v)::L) R):WR P n B w0 ops ({dst:=some d,op:=op,type:=ty,pos:=pos,after:=ml,guard:=none}::l) K L R:=by
 intro a w Q hs hp hq;refine wpList_plain rfl λK' Nz=> ?_;unfold Oper.wp;rw[hy a w _ rfl rfl hs hp];exact Nz _ _ (h _ _ Q (hs.put hn v) hp hq)
theorem bFy {d:Nat} {Post:Value->List Row->Prop} (hn:Nat.blt d n=true) (ha:Ac P n B w0 op ty L R Post) (h: ∀v R',Post v R'->WR P n B w0 ops l K ((d,v)::L) R'):WR P n B w0 ops ({dst:=some d,op:=op,type:=ty,pos:=pos,after:=ml,guard:=none}::l) K L R:=by
 intro a w Q hs hp hq;refine wpList_plain rfl λK' Nz=> ?_;exact ha a w _ K' Q rfl rfl hs hp λv w' R' bw hv=>Nz _ _ (h v R' hv _ _ Q (hs.put hn v) bw hq)
theorem bX {Post:Value->List Row->Prop} (ha:Ac P n B w0 op ty L R Post) (h: ∀v R',Post v R'->WR P n B w0 ops l K L R'):WR P n B w0 ops ({dst:=none,op:=op,type:=ty,pos:=pos,after:=ml,guard:=none}::l) K L R:=by
 intro a w Q hs hp hq;refine wpList_plain rfl λK' Nz=> ?_;exact ha a w _ K' Q rfl rfl hs hp λv w' R' bw hv=>Nz _ _ (h v R' hv _ _ Q hs bw hq)
theorem oL {j d:Nat} {b:Bool} {a:Act} (hs:Sat n L a) (hj:(ops[j]?).bind (·.dst)=some d) (hb:lk L d=some (.bool b)):yielded ops a.tmps j=some b:=by
 unfold yielded;rw[hj];simp only[Option.bind_some];rw[hs.val d _ hb]
theorem aC {j d:Nat} {want:Bool} {dst:Option Nat} (hj:(ops[j]?).bind (·.dst)=some d) (hb:lk L d=some (.bool want)) (h:WR P n B w0 ops ({dst:=dst,op:=op,type:=ty,pos:=pos,after:=ml,guard:=none}::l) K L R):
  WR P n B w0 ops ({dst:=dst,op:=op,type:=ty,pos:=pos,after:=ml,guard:=some (j,want)}::l) K L R:=by
 intro a w Q hs hp hq;have h1:=h a w Q hs hp hq;have hy:=oL hs hj hb;unfold wpList at h1 ⊢;rw[cu (by simp[Region.wanted])] at h1;rw[cu (by simp[Region.wanted,hy])];exact h1
theorem aP {j d e:Nat} {want b:Bool} (hj:(ops[j]?).bind (·.dst)=some d) (hb:lk L d=some (.bool b)) (da:(b==want)=false) (hn:Nat.blt e n=true) (h:WR P n B w0 ops l K ((e,undef)::L) R):
  WR P n B w0 ops ({dst:=some e,op:=op,type:=ty,pos:=pos,after:=ml,guard:=some (j,want)}::l) K L R:=by
 intro a w Q hs hp hq;have hy:=oL hs hj hb;unfold wpList
 have:Region.wanted {dst:=some e,op:=op,type:=ty,pos:=pos,after:=ml,guard:=some (j,want)} (yielded ops a.tmps)=false:=by
  simp only[Region.wanted,hy];cases b<;>cases want<;>simp_all
 rw[this];simp only[uu,wu];exact h _ _ Q (hs.put hn undef) hp hq
theorem vU {j d:Nat} {a:Act} (hs:Sat n L a) (hj:(ops[j]?).bind (·.dst)=some d) (hb:lk L d=some undef):yielded ops a.tmps j=none:=by
 unfold yielded;rw[hj];simp only[Option.bind_some];rw[hs.val d _ hb];rfl
theorem eZ {j d e:Nat} {want:Bool} (hj:(ops[j]?).bind (·.dst)=some d) (hb:lk L d=some undef) (hn:Nat.blt e n=true) (h:WR P n B w0 ops l K ((e,undef)::L) R):
  WR P n B w0 ops ({dst:=some e,op:=op,type:=ty,pos:=pos,after:=ml,guard:=some (j,want)}::l) K L R:=by
 intro a w Q hs hp hq;have hy:=vU hs hj hb;unfold wpList
 have:Region.wanted {dst:=some e,op:=op,type:=ty,pos:=pos,after:=ml,guard:=some (j,want)} (yielded ops a.tmps)=false:=by
  simp[Region.wanted,hy]
 rw[this];simp only[uu,wu];exact h _ _ Q (hs.put hn undef) hp hq
theorem oG {d:Nat} {v:Value} (h:lk L d=some v):Sub ((d,v)::L) L:=by
 intro t u hu;rcases vO hu with⟨rfl,rfl⟩|⟨_,hl⟩
 ·exact h
 ·exact hl
theorem cK (d:Nat) {p:Prop} [Decidable p] (hb:lk L d=some (.bool (decide p))) (ht:p->WR P n B w0 ops l K ((d, .bool true)::L) R) (hf: ¬p->WR P n B w0 ops l K ((d, .bool false)::L) R):WR P n B w0 ops l K L R:=by
 intro a w Q hs hp hq;by_cases h:p
 ·exact ht h a w Q (hs.sub (oG (by rw[hb,lh h]))) hp hq
 ·exact hf h a w Q (hs.sub (oG (by rw[hb,ol h]))) hp hq
theorem dH {L1:Env} {R1:List Row} (hL:Sub L1 L) (hR: ∀w,Hp B w0 w R->Hp B w0 w R1) (h:WR P n B w0 ops l K L1 R1):WR P n B w0 ops l K L R:=
 λa w Q hs hp hq=>h a w Q (hs.sub hL) (hR w hp) hq
theorem bN {d:Nat} {u v:Value} (hu:u=v) (h:WR P n B w0 ops l K ((d,v)::L) R):WR P n B w0 ops l K ((d,u)::L) R:=by
 subst hu;exact h
theorem iW {R1:List Row} (hR:R=R1) (h:WR P n B w0 ops l K L R1):WR P n B w0 ops l K L R:=by
 subst hR;exact h
end
end Go.Eng
namespace Go.Eng
open Go Go.RowKit
section
variable {P:Program} {n:Nd} {B:Nat} {w0:World} {L:Env} {R:List Row} {ty:TypeId}
theorem aN {x:Operand} {v:Value} (h:ev L x=some v):Yl P n B w0 (.move x) ty L R v:=by
 intro a w o ho _ hs _;simp[execOp,ho,hs.ev h]
theorem bP {x:Operand} {v:Value} (h:ev L x=some v):Yl P n B w0 (.assign x) ty L R v:=by
 intro a w o ho _ hs _;simp[execOp,ho,hs.ev h]
theorem aKq {c x y:Operand} {b:Bool} {v u:Value} (hc:ev L c=some (.bool b)) (hx:b=true->ev L x=some v) (hy:b=false->ev L y=some u):Yl P n B w0 (.pick c x y) ty L R (bif b then v else u):=by
 intro a w o ho _ hs _;cases b with
 |true=>simp[execOp,ho,hs.ev hc,hs.ev (hx rfl),asBool]
 |false=>simp[execOp,ho,hs.ev hc,hs.ev (hy rfl),asBool]
theorem aY {c x y:Operand} {v:Value} (hc:ev L c=some (.bool true)) (hx:ev L x=some v):Yl P n B w0 (.pick c x y) ty L R v:=
 aKq (b:=true) (u:=undef) hc (λ_=>hx) (λh=>by cases h)
theorem aR {c x y:Operand} {v:Value} (hc:ev L c=some (.bool false)) (hy:ev L y=some v):Yl P n B w0 (.pick c x y) ty L R v:=
 aKq (b:=false) (v:=undef) hc (λh=>by cases h) (λ_=>hy)
theorem aQ {x:Operand} {t e:TypeId} {A:Option Addr} {m c:Nat} (ht:P.underlying t=some (.slice e)) (hx:ev L x=some (.slice A m c)):Yl P n B w0 (.call {callee:= .builtin .len,args:= #[x],argTypes:= #[t]}) ty L R (.int .i64 (m:Int)):=by
 intro a w o ho _ hs _;simp[execOp,ho,resolve,invoke,builtin,Builtin.len_,lq ht,hs.ev hx,goInt]
theorem vV {x y:Operand} {ts:Array TypeId} {k:IntKind} {p q:Int} (hx:ev L x=some (.int k p)) (hy:ev L y=some (.int k q)):Yl P n B w0 (.call {callee:= .builtin .min,args:= #[x,y],argTypes:=ts}) ty L R (.int k (min p q)):=by
 intro a w o ho _ hs _;have:(if q<p then q else p)=min p q:=G
 simp[execOp,ho,resolve,invoke,builtin,Builtin.min_,Builtin.min2,hs.ev hx,hs.ev hy,this]
theorem aKs {x y:Operand} {ts:Array TypeId} {k:IntKind} {p q:Int} (hx:ev L x=some (.int k p)) (hy:ev L y=some (.int k q)):Yl P n B w0 (.call {callee:= .builtin .max,args:= #[x,y],argTypes:=ts}) ty L R (.int k (max p q)):=by
 intro a w o ho _ hs _;have:(if p<q then q else p)=max p q:=G
 simp[execOp,ho,resolve,invoke,builtin,Builtin.max_,Builtin.max2,hs.ev hx,hs.ev hy,this]
theorem bC {x y:Operand} {t u:TypeId} {k:IntKind} {p q:Int} (hx:ev L x=some (.int k p)) (hy:ev L y=some (.int k q)):Yl P n B w0 (.binOp .eql t x y u) ty L R (.bool (decide (p=q))):=by
 intro a w o ho _ hs _;have:(p==q)=decide (p=q):=by by_cases h:p=q<;>simp[h]
 simp[execOp,ho,binOp,eqGuard,hs.ev hx,hs.ev hy,Op.intCmp,this]
theorem iZ {x y:Operand} {t u:TypeId} {k:IntKind} {p q:Int} (hx:ev L x=some (.int k p)) (hy:ev L y=some (.int k q)):Yl P n B w0 (.binOp .neq t x y u) ty L R (.bool (decide (p≠q))):=by
 intro a w o ho _ hs _;have:(p !=q)=decide (p≠q):=by by_cases h:p=q<;>simp[h]
 simp[execOp,ho,binOp,eqGuard,hs.ev hx,hs.ev hy,Op.intCmp,this]
theorem eO {x y:Operand} {t u:TypeId} {k:IntKind} {p q:Int} (hx:ev L x=some (.int k p)) (hy:ev L y=some (.int k q)):Yl P n B w0 (.binOp .lss t x y u) ty L R (.bool (decide (p<q))):=by
 intro a w o ho _ hs _;simp[execOp,ho,binOp,eqGuard,hs.ev hx,hs.ev hy,Op.intCmp]
theorem vT {x y:Operand} {t u:TypeId} {k:IntKind} {p q:Int} (hx:ev L x=some (.int k p)) (hy:ev L y=some (.int k q)):Yl P n B w0 (.binOp .leq t x y u) ty L R (.bool (decide (p<=q))):=by
 intro a w o ho _ hs _;simp[execOp,ho,binOp,eqGuard,hs.ev hx,hs.ev hy,Op.intCmp]
theorem dV {x y:Operand} {t u:TypeId} {k:IntKind} {p q:Int} (hx:ev L x=some (.int k p)) (hy:ev L y=some (.int k q)):Yl P n B w0 (.binOp .gtr t x y u) ty L R (.bool (decide (q<p))):=by
 intro a w o ho _ hs _;simp[execOp,ho,binOp,eqGuard,hs.ev hx,hs.ev hy,Op.intCmp]
theorem jF {x y:Operand} {t u:TypeId} {k:IntKind} {p q:Int} (hx:ev L x=some (.int k p)) (hy:ev L y=some (.int k q)):Yl P n B w0 (.binOp .geq t x y u) ty L R (.bool (decide (q<=p))):=by
 intro a w o ho _ hs _;simp[execOp,ho,binOp,eqGuard,hs.ev hx,hs.ev hy,Op.intCmp]
theorem aKw {x y:Operand} {t u:TypeId} {k:IntKind} {p q:Int} (hx:ev L x=some (.int k p)) (hy:ev L y=some (.int k q)):Yl P n B w0 (.binOp .add t x y u) ty L R (.int k (k.wrap (p+q))):=by
 intro a w o ho _ hs _;simp[execOp,ho,binOp,eqGuard,hs.ev hx,hs.ev hy,Op.intArith]
theorem aXa {x y:Operand} {t u:TypeId} {k:IntKind} {p q:Int} (hx:ev L x=some (.int k p)) (hy:ev L y=some (.int k q)):Yl P n B w0 (.binOp .sub t x y u) ty L R (.int k (k.wrap (p-q))):=by
 intro a w o ho _ hs _;simp[execOp,ho,binOp,eqGuard,hs.ev hx,hs.ev hy,Op.intArith]
theorem aXc {x y:Operand} {t u:TypeId} {k:IntKind} {p q:Int} (hx:ev L x=some (.int k p)) (hy:ev L y=some (.int k q)):Yl P n B w0 (.binOp .mul t x y u) ty L R (.int k (k.wrap (p*q))):=by
 intro a w o ho _ hs _;simp[execOp,ho,binOp,eqGuard,hs.ev hx,hs.ev hy,Op.intArith]
theorem xO {p:Int} (h: -9223372036854775808<=p/\p<=9223372036854775807):IntKind.i64.wrap p=p:=by rw[Av];omega
theorem dG {x y:Operand} {t u:TypeId} {p q:Int} (hx:ev L x=some (.int .i64 p)) (hy:ev L y=some (.int .i64 q)) (h: -9223372036854775808<=p+q/\p+q<=9223372036854775807:=by omega):Yl P n B w0 (.binOp .add t x y u) ty L R (.int .i64 (p+q)):=by
 have:=aKw (P:=P) (n:=n) (B:=B) (w0:=w0) (R:=R) (ty:=ty) (t:=t) (u:=u) hx hy;rwa[xO h] at this
theorem jE {x y:Operand} {t u:TypeId} {p q:Int} (hx:ev L x=some (.int .i64 p)) (hy:ev L y=some (.int .i64 q)) (h: -9223372036854775808<=p-q/\p-q<=9223372036854775807:=by omega):Yl P n B w0 (.binOp .sub t x y u) ty L R (.int .i64 (p-q)):=by
 have:=aXa (P:=P) (n:=n) (B:=B) (w0:=w0) (R:=R) (ty:=ty) (t:=t) (u:=u) hx hy;rwa[xO h] at this
theorem gZ {x y:Operand} {t u:TypeId} {p q:Int} (hx:ev L x=some (.int .i64 p)) (hy:ev L y=some (.int .i64 q)) (h: -9223372036854775808<=p*q/\p*q<=9223372036854775807:=by omega):Yl P n B w0 (.binOp .mul t x y u) ty L R (.int .i64 (p*q)):=by
 have:=aXc (P:=P) (n:=n) (B:=B) (w0:=w0) (R:=R) (ty:=ty) (t:=t) (u:=u) hx hy;rwa[xO h] at this
theorem CE {x y:Operand} {t u:TypeId} {k:IntKind} {p q:Int} (hx:ev L x=some (.int k p)) (hy:ev L y=some (.int k q)) (h0:0<=p:=by omega) (h:0<q:=by omega):Yl P n B w0 (.binOp .rem t x y u) ty L R (.int k (p%q)):=by
 intro a w o ho _ hs _;have h1: ¬q=0:=G
 simp[execOp,ho,binOp,eqGuard,hs.ev hx,hs.ev hy,Op.intDiv,h1,Int.tmod_eq_emod_of_nonneg h0]
theorem aXb {x y:Operand} {t u:TypeId} {k:IntKind} {p q:Int} (hx:ev L x=some (.int k p)) (hy:ev L y=some (.int k q)) (h0:0<=p) (h:0<q):Yl P n B w0 (.binOp .quo t x y u) ty L R (.int k (k.wrap (p/q))):=by
 intro a w o ho _ hs _;have h1: ¬q=0:=G
 simp[execOp,ho,binOp,eqGuard,hs.ev hx,hs.ev hy,Op.intDiv,h1,Int.tdiv_eq_ediv_of_nonneg h0]
theorem OM {x y:Operand} {t u:TypeId} {p q:Int} (hx:ev L x=some (.int .i64 p)) (hy:ev L y=some (.int .i64 q)) (h0:0<=p) (h:0<q) (hm:p<=9223372036854775807):Yl P n B w0 (.binOp .quo t x y u) ty L R (.int .i64 (p/q)):=by
 have:=aXb (P:=P) (n:=n) (B:=B) (w0:=w0) (R:=R) (ty:=ty) (t:=t) (u:=u) hx hy h0 h;have h1:p/q<=p:=Gx q h0;have h2:0<=p/q:=Dx h0 G;rwa[xO G] at this
theorem dI {x:Operand} {t:TypeId} {b:Bool} (hx:ev L x=some (.bool b)):Yl P n B w0 (.unOp .not t x) ty L R (.bool !b):=by
 intro a w o ho _ hs _;simp[execOp,ho,hs.ev hx,Op.unary]
theorem ET {x:Operand} {t:TypeId} {p:Prop} [Decidable p] (hx:ev L x=some (.bool (decide p))):Yl P n B w0 (.unOp .not t x) ty L R (.bool (decide (¬p))):=by
 have:=dI (P:=P) (n:=n) (B:=B) (w0:=w0) (R:=R) (ty:=ty) (t:=t) hx;rwa[show(!decide p)=decide (¬p) by simp] at this
theorem oM {x:Operand} {s d:TypeId} {k j:IntKind} {p:Int} {td:TypeDesc} (dg:P.underlying s=some td) (hd:P.underlying d=some (.int k)) (hx:ev L x=some (.int j p)):Yl P n B w0 (.convert s d x) ty L R (.int k (k.wrap p)):=by
 intro a w o ho _ hs _;simp[execOp,ho,convert,lq dg,lq hd,hs.ev hx,Conv.intToInt]
theorem iV {x:Operand} {s d:TypeId} {j:IntKind} {p:Int} {td:TypeDesc} (dg:P.underlying s=some td) (hd:P.underlying d=some (.int .i64)) (hx:ev L x=some (.int j p)) (h: -9223372036854775808<=p/\p<=9223372036854775807:=by omega):Yl P n B w0 (.convert s d x) ty L R (.int .i64 p):=by
 have:=oM (P:=P) (n:=n) (B:=B) (w0:=w0) (R:=R) (ty:=ty) dg hd hx;rwa[xO h] at this
end
end Go.Eng
namespace Go.Eng
open Go Go.RowKit
def pat (A:Option Addr) (j:Nat):Option Addr:=A.map (·.add j)
theorem add_add (a:Addr) (i j:Nat):(a.add i).add j=a.add (i+j):=by
 unfold Addr.add;by_cases h1:i=0<;>by_cases h2:j=0<;>simp[h1,h2,qd]
theorem yM (A:Option Addr):pat A 0=A:=by cases A<;>simp[pat,Addr.add]
def rd (l:List Int) (i:Int):Int:=l.getD i.toNat 0
def ints (k:IntKind) (l:List Int):List Value:=l.map (Value.int k)
theorem bV (k:IntKind) (l:List Int):(ints k l).length=l.length:=by simp[ints]
theorem ints_at {k:IntKind} {l:List Int} {i:Int} (h0:0<=i) (h:i<l.length):(ints k l)[i.toNat]? =some (.int k (rd l i)):=by
 have hl:i.toNat<l.length:=G
 simp[ints,rd,af,av hl]
def BZ:TypeDesc->Bool
 | .struct _=>true
 | .array _ _=>true
 |_=>false
section
variable {P:Program} {n:Nd} {B:Nat} {w0:World} {L:Env} {R:List Row} {ty:TypeId}
theorem MH {t:TypeId} {d:TypeDesc} (hu:P.underlying t=some d) (w:World):(isAgg t).run P w= .ok (BZ d) w:=by
 simp only[isAgg,jm,lq hu,jk];cases d<;>rfl
theorem Rd.cell {w:World} {A:Option Addr} {m c sz:Nat} {xs:List Value} (h:Rd w A m c sz xs) {j:Nat} {v:Value} (hv:xs[j]? =some v): ∃a,pat A j=some a/\w.cell? a=some v:=by
 obtain⟨a,rfl,hc⟩:=h.at_ j v hv;exact⟨_,rfl,hc⟩
theorem gV {x ix:Operand} {t e:TypeId} {k:IntKind} {A:Option Addr} {m c sz:Nat} {i:Int} {xs:List Value} (ht:P.underlying t=some (.slice e)) (hi:(P.info? e).map (·.size)=some sz) (hx:ev L x=some (.slice A m c)) (rm:ev L ix=some (.int k i))
  (hr:RdC B w0 R A m c sz xs) (hsz:Nat.blt 0 sz=true) (h0:0<=i:=by omega) (h1:i<m:=by omega):Yl P n B w0 (.indexAddr t x ix) ty L R (.pointer (pat A (i.toNat*sz))):=by
 intro a w o ho _ hs hp;have ie:=hr w hp;obtain⟨i0,ar,hsz0⟩:=ib.1 hi
 have aw:i.toNat*sz<xs.length:=by
  rw[ie.len];exact Nat.mul_lt_mul_of_pos_right G (au hsz)
 obtain⟨ad,rfl,_⟩:=ie.at_ (i.toNat*sz) xs[i.toNat*sz] (by simp[aw]);simp[execOp,ho,Instr.indexAt,hs.ev hx,hs.ev rm,asIntOf,lq ht,h0,h1,sizeOf,typeInfo,ar,hsz0,pat]
theorem aH {x ix:Operand} {t e:TypeId} {k:IntKind} {A:Option Addr} {m c:Nat} {i:Int} {xs:List Value} (ht:P.underlying t=some (.slice e)) (hi:(P.info? e).map (·.size)=some 1) (hx:ev L x=some (.slice A m c)) (rm:ev L ix=some (.int k i))
  (hr:RdC B w0 R A m c 1 xs) (h0:0<=i:=by omega) (h1:i<m:=by omega):Yl P n B w0 (.indexAddr t x ix) ty L R (.pointer (pat A i.toNat)):=by
 have:=gV (n:=n) (ty:=ty) ht hi hx rm hr rfl h0 h1;rwa[qy] at this
theorem EX {x ix:Operand} {t e:TypeId} {k:IntKind} {p A:Option Addr} {m c sz Mc N j0:Nat} {i:Int} {xs:List Value} (ht:P.underlying t=some (.array N e)) (hi:(P.info? e).map (·.size)=some sz) (hx:ev L x=some (.pointer p)) (Fm:p=pat A j0) (rm:ev L ix=some (.int k i))
  (hr:RdC B w0 R A m c Mc xs) (aw:j0<xs.length) (h0:0<=i) (h1:i<N):Yl P n B w0 (.indexAddr t x ix) ty L R (.pointer (pat A (j0+i.toNat*sz))):=by
 intro a w o ho _ hs hp;have ie:=hr w hp;obtain⟨i0,ar,hsz0⟩:=ib.1 hi;obtain⟨ad,rfl,_⟩:=ie.at_ j0 xs[j0] (by simp[aw]);subst Fm;simp[execOp,ho,Instr.indexAt,Instr.sureAddr,hs.ev hx,hs.ev rm,asIntOf,lq ht,h0,h1,sizeOf,typeInfo,ar,hsz0,pat,add_add]
theorem AB {x:Operand} {t:TypeId} {d:TypeDesc} {p A:Option Addr} {j m c sz:Nat} {xs:List Value} {v:Value} (hu:P.underlying t=some d) (hd:BZ d=false) (hx:ev L x=some (.pointer p)) (hp:p=pat A j) (hr:RdC B w0 R A m c sz xs) (hv:xs[j]? =some v):
  Yl P n B w0 (.load t x) ty L R v:=by
 intro a w o ho _ hs hw;obtain⟨ad,h1,h2⟩:=(hr w hw).cell hv;subst hp;simp[execOp,ho,Instr.loadAt,Instr.sureAddr,hs.ev hx,h1,loadVar,MH hu,hd,h2]
theorem aX {x:Operand} {t:TypeId} {d:TypeDesc} {A:Option Addr} {m c:Nat} {k:IntKind} {l:List Int} {i:Int} (hu:P.underlying t=some d) (hd:BZ d=false) (hx:ev L x=some (.pointer (pat A i.toNat))) (hr:RdC B w0 R A m c 1 (ints k l)) (h0:0<=i:=by omega) (h1:i<m:=by omega):
  Yl P n B w0 (.load t x) ty L R (.int k (rd l i)):=by
 intro a w o ho xo hs hw;have hl:=(hr w hw).len;rw[bV] at hl;exact AB hu hd hx rfl hr (ints_at h0 G) a w o ho xo hs hw
theorem aCj {x:Operand} {t:TypeId} {d:TypeDesc} {p A:Option Addr} {j m c sz st:Nat} {xs:List Value} (hu:P.underlying t=some d) (hd:BZ d=true) (ee:(P.info? t).map (·.size)=some st) (hx:ev L x=some (.pointer p)) (hp:p=pat A j) (hr:RdC B w0 R A m c sz xs) (hj:j+st<=xs.length) (u6:0<st):
  Yl P n B w0 (.load t x) ty L R (.agg ((xs.drop j).take st).toArray):=by
 intro a w o ho _ hs hw;have ie:=hr w hw;obtain⟨i0,ar,hsz0⟩:=ib.1 ee;obtain⟨ad,rfl,_⟩:=ie.at_ j xs[j] cD;subst hp
 have hc:(loadCells (ad.add j) st).run P w= .ok ((xs.drop j).take st).toArray w:=by
  have:=run_loadCells_list (P:=P) w (ad.add j) ((xs.drop j).take st) (λq v hq=>by
   have Ln:xs[j+q]? =some v:=by
    rw[oh] at hq;split at hq
    ·simpa using hq
    ·cases hq
   obtain⟨a',ki,hc⟩:=ie.at_ _ _ Ln;obtain rfl:=iw ki
   rw[add_add];exact hc)
  have hl:((xs.drop j).take st).length=st:=cG
  rwa[hl] at this
 simp[execOp,ho,Instr.loadAt,Instr.sureAddr,hs.ev hx,pat,loadVar,MH hu,hd,sizeOf,typeInfo,ar,hsz0,hc]
theorem sW {x:Operand} {t:TypeId} {fs:Array Field} {f:Field} {k st:Nat} {a0:Addr} (hu:P.underlying t=some (.struct fs)) (hf:fs[k]? =some f) (ee:(P.info? f.type).map (·.size)=some st) (u6:Nat.blt 0 st=true) (hx:ev L x=some (.pointer (some a0))):
  Yl P n B w0 (.fieldAddr t x k) ty L R (.pointer (some (a0.add f.offset))):=by
 intro a w o ho _ hs _;obtain⟨i0,ar,hsz0⟩:=ib.1 ee;have: ¬st=0:=by have:=au u6;omega
 simp[execOp,ho,Instr.fieldAt,Instr.sureAddr,hs.ev hx,lq hu,hf,fieldPlace,sizeOf,typeInfo,ar,hsz0,this]
theorem aD {x:Operand} {a0:Addr} (hx:ev L x=some (.pointer (some a0))):Yl P n B w0 (.nilCheck x) ty L R (.pointer (some a0)):=by
 intro a w o ho _ hs _;simp[execOp,ho,hs.ev hx]
theorem jM {x:Operand} {i:Nat} {vs:Array Value} {v:Value} (hx:ev L x=some (.tuple vs)) (hv:vs[i]? =some v):Yl P n B w0 (.extract x i) ty L R v:=by
 intro a w o ho _ hs _;simp[execOp,ho,hs.ev hx,Instr.extract,hv]
def evs (L:Env):List Operand->Option (List Value)
 |[]=>some []
 |x::r=>match ev L x,evs L r with
  |some v,some vs=>some (v::vs)
  |_,_=>none
theorem Sat.evs {a:Act} (hs:Sat n L a): ∀ {xs:List Operand} {vs:List Value},evs L xs=some vs->xs.map a.eval=vs
 |[],vs,h=>by simpa [Eng.evs] using h
 | x::r,vs,h=>by
  unfold Eng.evs at h;split at h
  ·rename_i v us h1 h2;obtain rfl:=iw h;rw[kv,hs.ev h1,hs.evs h2]
  ·cases h
theorem kQ {fn:Fn} {ps cs:List Operand} {vs us:List Value} (h1:evs L ps=some vs) (h2:evs L cs=some us):Yl P n B w0 (.makeFunc fn ps.toArray cs.toArray) ty L R (.func fn vs.toArray us.toArray):=by
 intro a w o ho _ hs _;have e1:=hs.evs h1;have e2:=hs.evs h2;simp[execOp,ho,Instr.makeFunc,e1,e2]
def iY (A:Option Addr) (l c sz:Nat):Option Addr:=if c=l then A else A.map (·.add (l*sz))
theorem aZo {w:World} {A:Option Addr} {m sz c l h:Nat} {xs:List Value} (hr:Rd w A m c sz xs) (h1:l<=h) (h2:h<=m):Rd w (iY A l c sz) (h-l) (c-l) sz ((xs.drop (l*sz)).take ((h-l)*sz)):=by
 have hc:=hr.le;have e1:h*sz=l*sz+(h-l)*sz:=by rw[<-xm];congr 1;omega
 have e2:h*sz<=m*sz:=ug _ h2;refine⟨?_,by have:=hr.max;omega,G,λj v hv=> ?_⟩
 ·rw[ax,bg,hr.len];omega
 ·rw [oh] at hv;split at hv
  ·rename_i hj;have My:xs[l*sz+j]? =some v:=by simpa using hv
   obtain⟨a,rfl,hcell⟩:=hr.at_ _ _ My;unfold iY;by_cases kc:c=l
   ·have:h=l:=G
    subst this;simp at hj
   ·rw [bu kc];exact⟨_,rfl,by rw[add_add];exact hcell⟩
  ·cases hv
theorem RdC.cut {A:Option Addr} {m sz c l h:Nat} {xs:List Value} (hr:RdC B w0 R A m c sz xs) (h1:l<=h) (h2:h<=m):RdC B w0 R (iY A l c sz) (h-l) (c-l) sz ((xs.drop (l*sz)).take ((h-l)*sz)):=
 λw hw=>aZo (hr w hw) h1 h2
theorem RdC.cutI {A:Option Addr} {m c l h:Nat} {k:IntKind} {xs:List Int} (hr:RdC B w0 R A m c 1 (ints k xs)) (h1:l<=h) (h2:h<=m):RdC B w0 R (iY A l c 1) (h-l) (c-l) 1 (ints k ((xs.drop l).take (h-l))):=by
 have:=hr.cut h1 h2;simpa [ints,Bl,Gr] using this
theorem RdC.fromI {A:Option Addr} {m c l:Nat} {k:IntKind} {xs:List Int} (hr:RdC B w0 R A m c 1 (ints k xs)) (h1:l<=m):RdC B w0 R (iY A l c 1) (m-l) (c-l) 1 (ints k (xs.drop l)):=by
 intro w hw;have:=hr.cutI h1 (dh m) w hw;have hl:=(hr w hw).len;rw[bV] at hl;rwa[bn (by rw[bg];omega)] at this
theorem RdC.to {A:Option Addr} {m c h sz:Nat} {xs:List Value} (hr:RdC B w0 R A m c sz xs) (h2:h<=m):RdC B w0 R A h c sz (xs.take (h*sz)):=by
 intro w hw;have ie:=hr w hw;have hl:=ie.len;have mj:h*sz<=m*sz:=ug _ h2;refine⟨by rw[ax];omega,by have:=ie.max;omega,by have:=ie.le;omega,λj v hv=> ?_⟩;refine ie.at_ j v ?_;rw[oh] at hv;split at hv
 ·exact hv
 ·cases hv
theorem RdC.toI {A:Option Addr} {m h c:Nat} {k:IntKind} {xs:List Int} (hr:RdC B w0 R A m c 1 (ints k xs)) (h2:h<=m):RdC B w0 R A h c 1 (ints k (xs.take h)):=by
 have:=hr.to h2;simpa [ints,Bl] using this
theorem aCg {x y z:Operand} {t e:TypeId} {A:Option Addr} {m c sz:Nat} {k1 k2:IntKind} {l h:Int} (ht:P.underlying t=some (.slice e)) (hi:(P.info? e).map (·.size)=some sz) (hx:ev L x=some (.slice A m c)) (hy:ev L y=some (.int k1 l)) (hz:ev L z=some (.int k2 h)) {xs:List Value} (hr:RdC B w0 R A m c sz xs) (h0:0<=l) (h1:l<=h) (h2:h<=m):
  Yl P n B w0 (.slice t x (some y) (some z) none) ty L R (.slice (iY A l.toNat c sz) (h.toNat-l.toNat) (c-l.toNat)):=by
 intro a w o ho _ hs hp;have mj:=(hr w hp).le;obtain⟨i0,ar,hsz0⟩:=ib.1 hi;have pn:P.elem t=e:=by simp[Program.elem,ht]
 have ob:P.underlying t=some (.slice (P.elem t)):=by rw[pn];exact ht
 simp only[execOp,ho,jr,zz,hs.ev hx,hs.ev hy,hs.ev hz,jm,za w t _ _ _ _ ob,run_slice_lh w t A m c ob k1 k2 l h h0 h1 G,pn];simp[sizeOf,typeInfo,ar,hsz0,sliced,iY]
theorem iP {x y:Operand} {t e:TypeId} {A:Option Addr} {m c sz:Nat} {k1:IntKind} {l:Int} (ht:P.underlying t=some (.slice e)) (hi:(P.info? e).map (·.size)=some sz) (hx:ev L x=some (.slice A m c)) (hy:ev L y=some (.int k1 l)) (h0:0<=l:=by omega) (h1:l<=m:=by omega):
  Yl P n B w0 (.slice t x (some y) none none) ty L R (.slice (iY A l.toNat c sz) (m-l.toNat) (c-l.toNat)):=by
 intro a w o ho _ hs _;obtain⟨i0,ar,hsz0⟩:=ib.1 hi;have pn:P.elem t=e:=by simp[Program.elem,ht]
 have ob:P.underlying t=some (.slice (P.elem t)):=by rw[pn];exact ht
 simp only[execOp,ho,jr,zz,hs.ev hx,hs.ev hy,jm,za w t _ _ _ _ ob,run_slice_l w t A m c ob k1 l h0 h1,pn];simp[sizeOf,typeInfo,ar,hsz0,sliced,iY]
theorem gD {x z:Operand} {t e:TypeId} {A:Option Addr} {m c sz:Nat} {k2:IntKind} {h:Int} (ht:P.underlying t=some (.slice e)) (hi:(P.info? e).map (·.size)=some sz) (hx:ev L x=some (.slice A m c)) (hz:ev L z=some (.int k2 h)) {xs:List Value} (hr:RdC B w0 R A m c sz xs) (h0:0<=h:=by omega) (h2:h<=m:=by omega):
  Yl P n B w0 (.slice t x none (some z) none) ty L R (.slice A h.toNat c):=by
 intro a w o ho _ hs hp;have mj:=(hr w hp).le;obtain⟨i0,ar,hsz0⟩:=ib.1 hi;have pn:P.elem t=e:=by simp[Program.elem,ht]
 have ob:P.underlying t=some (.slice (P.elem t)):=by rw[pn];exact ht
 simp only[execOp,ho,jr,zz,hs.ev hx,hs.ev hz,jm,za w t _ _ _ _ ob,run_slice_h w t A m c ob k2 h h0 G,pn]
 have:(if c=0 then A else Option.map (λx=>x.add 0) A)=A:=by
  split
  ·rfl
  ·exact yM A
 simp[sizeOf,typeInfo,ar,hsz0,sliced,this]
def Enters (P:Program) (f:FuncId):Prop:= ∀args w,(callFunc f args).run P w= .ok (.enter f args) w
theorem enters {f:FuncId} {fn:Func} (hf:P.funcs[f]? =some fn) (h1:(fn.name== "runtime.NumGoroutine")=false) (h2:fn.body.isNone=false):Enters P f:=by
 intro args w;unfold callFunc;simp only[program,jm,Sem.run,jk,hf];simp[h1,h2]
theorem JZ {Wf:Operand} {i6:List Operand} {ts:Array TypeId} {f:FuncId} {ps cs:Array Value} {vs:List Value} {Post:Value->List Row->Prop} (he:Enters P f) (hf:ev L Wf=some (.func (.func f) ps cs)) (ha:evs L i6=some vs) (hc:Ct P f (ps++vs.toArray++cs) B w0 R Post):
  Ac P n B w0 (.call {callee:= .value Wf,args:=i6.toArray,argTypes:=ts}) ty L R Post:=by
 intro a w o K Q ho _ hs hp hk;have e1:=hs.evs ha;unfold Oper.wp;simp only[execOp,ho,resolve,hs.ev hf,Deferred.ofValue,invoke,jm,lv,jk,rf,e1,he (ps++vs.toArray++cs) w,Oper.upon];refine(hc w hp).mono ?_;rintro e w' ⟨v,R',rfl,bw,hv⟩;exact hk v w' R' bw hv
theorem aF {f:FuncId} {i6:List Operand} {ts:Array TypeId} {vs:List Value} {Post:Value->List Row->Prop} (he:Enters P f) (ha:evs L i6=some vs) (hc:Ct P f vs.toArray B w0 R Post):
  Ac P n B w0 (.call {callee:= .value (.func f),args:=i6.toArray,argTypes:=ts}) ty L R Post:=
 JZ (ps:= #[]) (cs:= #[]) he rfl ha (by simpa using hc)
end
end Go.Eng
namespace Go.Eng
open Go Go.RowKit
section
variable {P:Program} {n:Nd} {B:Nat} {w0:World} {L:Env} {R:List Row} {ty:TypeId}
theorem Row.lies_nil (B:Nat) (w:World) (e sz:Nat):(Row.mk e sz none 0 0 [] false).lies B w:=World.ownsRow_nil w B e sz
theorem Hp.nil {w:World} (h:Hp B w0 w R) (e sz:Nat):Hp B w0 w (⟨e,sz,none,0,0,[],false⟩::R):=
 ⟨h.below,h.base,λr hr=>by
  rcases jf.1 hr with rfl|hr
  ·exact Row.lies_nil B w e sz
  ·exact h.own r hr,iv.2 ⟨λr _ a a' ha _=>(by cases ha),h.apart⟩,h.late⟩
theorem Hp.new {w:World} (h:Hp B w0 w R) (cs:Array Value) (e m sz:Nat) (hm:m<=maxLen) (hs:cs.size=m*sz):Hp B w0 (w.alloc (.cells cs e)) (⟨e,sz,some ⟨w.heap.size,0,none⟩,m,m,cs.toList,false⟩::R):=by
 refine h.join (Rn:=[_]) ⟨(Es _ _).alloc (dh _) _,cD,λr hr=> ?_,ql _ _,Late.alloc _ _⟩;obtain rfl:=jc.1 hr;exact World.ownsRow_lit w cs m (dh _) hm hs
theorem Hp.upd {w w':World} (h:Hp B w0 w R) {i:Nat} {r r':Row} (hi:R[i]? =some r) {row:Option Nat} (hg:w.grownBy w' row) (hd:w.drawn<=w'.drawn) (dv: ∀k,row=some k-> ∃a,r.A=some a/\a.block=k) (hl:r'.lies B w')
  (hb: ∀a',r'.A=some a'->(∃a,r.A=some a/\a.block=a'.block)\/w.heap.size<=a'.block):Hp B w0 w' (R.set i r'):=by
 have hr:r∈R:=ek hi;have th:i<R.length:=(dn.1 hi).1
 have Vu: ∀(q:Row),q.lies B w->(∀a,q.A=some a-> ∀a',r.A=some a'->a.block≠a'.block)->q.lies B w':=by
  intro q hq da;refine Row.lies_of_block hq λa ha=> ?_;refine hg.block a.block (Row.lies_lt hq a ha).2 λe=> ?_;obtain⟨a',ki,hk⟩:=dv _ e.symm;exact da a ha a' ki hk.symm
 refine⟨h.below.grown hg h.base (λk hk=> ?_),sw h.base hg.size,λq hq=> ?_,?_,h.late.trans ⟨hd,λk o hk hc=> ?_⟩⟩
 ·obtain ⟨a,ha,rfl⟩:=dv k hk;exact(Row.lies_lt (h.own r hr) a ha).1
 ·obtain ⟨j,hj⟩:=List.mem_iff_getElem?.1 hq;rw[vw] at hj;by_cases na:i=j
  ·rw [cu na] at hj;rw[cu th] at hj;obtain rfl:=iw hj;exact hl
  ·rw [bu na] at hj;refine Vu q (h.own q (ek hj)) ?_;intro a ha a' ki;have b8:=(dn.1 hj).1;have Pa:=(dn.1 hj).2;have wd:=(dn.1 hi).2;rcases Bv na with aw|aw
   ·have:=di.1 h.apart i j th b8 aw;rw[Pa,wd] at this;exact Fz (this a' a ki ha)
   ·have:=di.1 h.apart j i b8 th aw;rw[Pa,wd] at this;exact this a a' ha ki
 ·have Mh: ∀j (hj:j<R.length),i≠j->r'.apart R[j]:=by
   intro j hj na a' aj ki Rh;have hlj:=Row.lies_lt (h.own R[j] (kz hj)) aj Rh;rcases hb a' ki with⟨a,ha,e⟩|l8
   ·have wd:=(dn.1 hi).2;rw[<-e];rcases Bv na with aw|aw
    ·have:=di.1 h.apart i j th hj aw;rw[wd] at this;exact this a aj ha Rh
    ·have:=di.1 h.apart j i hj th aw;rw[wd] at this;exact Fz (this aj a Rh ha)
   ·omega
  refine di.2 λp q hp hq Uy=> ?_;simp only[Ea] at hp hq;by_cases h1:i=p
  ·subst h1;rw[List.getElem_set_self,Bh G];exact Mh q hq G
  ·by_cases h2:i=q
   ·subst h2;rw[List.getElem_set_self,Bh h1];exact Row.apart_symm (Mh p hp G)
   ·rw [Bh h1,Bh h2];exact di.1 h.apart p q hp hq Uy
 ·rw [hg.block k (dz.1 hk).1 λe=> ?_]
  ·exact hk
  ·obtain ⟨a,ha,rfl⟩:=dv k e.symm;obtain⟨cs,e',fr,cr⟩:=Row.lies_cells (h.own r hr) ha;rw[cr] at hk;cases hk;cases hc
theorem World.grownBy_refl' (w:World) (row:Option Nat):w.grownBy w row:=⟨rfl,rfl,rfl,dh _,λ_ _ _=>rfl⟩
theorem Row.lies_w {w:World} {r:Row} (h:r.lies B w) (li:r.ro=false):w.ownsRow B r.e r.sz (.slice r.A r.n r.c) r.n r.xs:=by
 unfold Row.lies at h;simpa only[li] using h
theorem bBm {x y:Operand} {t e:TypeId} {z:Value} {bytes m:Nat} (ht:P.underlying t=some (.slice e)) (co:(P.info? e).map (λi=>(i.zero,i.size,i.bytes))=some (some z,1,bytes)) (hz:z.cells= #[z])
  (hx:ev L x=some (.int .i64 (m:Int))) (hy:ev L y=some (.int .i64 (m:Int))) (hm:m*bytes<=281474976710656) (u4:m<=9223372036854775807):
  Ac P n B w0 (.makeSlice t x y) ty L R (λv R'=> ∃g,v= .slice (some ⟨g,0,none⟩) m m/\R'=⟨e,1,some ⟨g,0,none⟩,m,m,List.replicate m z,false⟩::R):=by
 intro a w o K Q ho _ hs hp hk;obtain⟨i0,hi,ua⟩:=ib.1 co;simp only[xh] at ua;obtain⟨sf,tz,g7⟩:=ua
 have hb:(i0.bytes:Int)*(m:Int)<=281474976710656:=by
  have h:((m*bytes:Nat):Int)<=281474976710656:=G
  rw[g7,Cj];rwa[zy] at h
 have hr:=run_make (P:=P) w t e i0 z ht hi sf .i64 .i64 m m G (ky _) hb G;simp only[az,tz,qy,hz] at hr;unfold Oper.wp;simp only[execOp,ho,hs.ev hx,hs.ev hy,jm,hr,jk,lv,Oper.upon];have hh:=hp.new (madeCells #[z] m) e m 1 (by unfold maxLen;omega) (by simp[size_madeCells]);rw[toList_madeCells_one] at hh;exact hk _ _ _ hh ⟨_,rfl,rfl⟩
theorem aFk {x y:Operand} {t e:TypeId} {z:Value} {bytes:Nat} {m:Int} (ht:P.underlying t=some (.slice e)) (co:(P.info? e).map (λi=>(i.zero,i.size,i.bytes))=some (some z,1,bytes)) (hz:z.cells= #[z])
  (hx:ev L x=some (.int .i64 m)) (hy:ev L y=some (.int .i64 m)) (h0:0<=m) (hm:m*bytes<=281474976710656) (u4:m<=9223372036854775807):
  Ac P n B w0 (.makeSlice t x y) ty L R (λv R'=> ∃g,v= .slice (some ⟨g,0,none⟩) m.toNat m.toNat/\R'=⟨e,1,some ⟨g,0,none⟩,m.toNat,m.toNat,List.replicate m.toNat z,false⟩::R):=by
 obtain⟨q,rfl⟩:=Int.eq_ofNat_of_zero_le h0;have h:((q*bytes:Nat):Int)<=281474976710656:=by rw[zy];exact hm
 have:=bBm (P:=P) (n:=n) (B:=B) (w0:=w0) (L:=L) (R:=R) (ty:=ty) (m:=q) ht co hz hx hy G G;simpa only[az] using this
theorem iH {e:TypeId} {z:Value} {sz:Nat} (co:(P.info? e).map (·.zero)=some (some z)) (hz:z.cells.size=sz):Ac P n B w0 (.alloc e) ty L R (λv R'=> ∃g,v= .pointer (some ⟨g,0,none⟩)/\R'=⟨e,sz,some ⟨g,0,none⟩,1,1,z.cells.toList,false⟩::R):=by
 intro a w o K Q ho _ hs hp hk;obtain⟨i0,hi,sf⟩:=ib.1 co;have hh:=hp.new z.cells e 1 sz (by unfold maxLen;omega) G;unfold Oper.wp
 have hr:(Instr.alloc e true (.tuple #[])).run P w= .ok (.pointer (some ⟨w.heap.size,0,none⟩)) (w.alloc (.cells z.cells e)):=by
  simp[Instr.alloc,zeroValue,typeInfo,hi,sf,newVar,newRow]
 simp only[execOp,ho,jm,hr,jk,lv,Oper.upon];exact hk _ _ _ hh ⟨_,rfl,rfl⟩
theorem bY {e:TypeId} {x:Operand} {v:Value} {sz:Nat} (hx:ev L x=some v) (hz:v.cells.size=sz):Ac P n B w0 (.box e x) ty L R (λu R'=> ∃g,u= .pointer (some ⟨g,0,none⟩)/\R'=⟨e,sz,some ⟨g,0,none⟩,1,1,v.cells.toList,false⟩::R):=by
 intro a w o K Q ho _ hs hp hk;have hh:=hp.new v.cells e 1 sz (by unfold maxLen;omega) G;unfold Oper.wp
 have hr:(Instr.box e v).run P w= .ok (.pointer (some ⟨w.heap.size,0,none⟩)) (w.alloc (.cells v.cells e)):=by
  simp[Instr.box,newVar,newRow]
 simp only[execOp,ho,hs.ev hx,jm,hr,jk,lv,Oper.upon];exact hk _ _ _ hh ⟨_,rfl,rfl⟩
def evp (L:Env):List (Nat × Operand)->Option (List (Nat × Value))
 |[]=>some []
 |(i,x)::r=>match ev L x,evp L r with
  |some v,some vs=>some ((i,v)::vs)
  |_,_=>none
theorem Sat.evp {a:Act} (hs:Sat n L a): ∀ {xs:List (Nat × Operand)} {vs:List (Nat × Value)},evp L xs=some vs->xs.map (λp=>(p.1,a.eval p.2))=vs
 |[],vs,h=>by simpa [Eng.evp] using h
 | (i,x)::r,vs,h=>by
  unfold Eng.evp at h;split at h
  ·rename_i v us h1 h2;obtain rfl:=iw h;rw[kv,hs.ev h1,hs.evp h2]
  ·cases h
theorem nZ {t e:TypeId} {z:Value} {sz len:Nat} {ps:List (Nat × Operand)} {vs:List (Nat × Value)} {cells:Array Value} (ht:P.underlying t=some (.slice e)) (co:(P.info? e).map (λi=>(i.zero,i.size))=some (some z,sz)) (hv:evp L ps=some vs)
  (oa:Nat.ble (len*sz) 16777216=true) (hl:Nat.ble len 16777216=true)
  (yb:Instr.fill (λi=>some (i*sz,sz)) ((Array.range (len*sz)).map ((bif Nat.beq (len*sz) 0 then #[] else z.cells)[· %(bif Nat.beq (len*sz) 0 then #[] else z.cells).size]!)) vs=some cells) (hc:cells.size=len*sz):
  Ac P n B w0 (.buildSlice t len ps.toArray) ty L R (λv R'=> ∃g,v= .slice (some ⟨g,0,none⟩) len len/\R'=⟨e,sz,some ⟨g,0,none⟩,len,len,cells.toList,false⟩::R):=by
 intro a w o K Q ho _ hs hp hk;obtain⟨i0,hi,ua⟩:=ib.1 co;simp only[xh] at ua;obtain⟨sf,tz⟩:=ua;have Ry:=au oa;have Xl:=au hl;have Kv:=hs.evp hv
 have hr:(Instr.buildSlice t len (ps.toArray.map λp=>(p.1,a.eval p.2))).run P w= .ok (.slice (some ⟨w.heap.size,0,none⟩) len len) (w.alloc (.cells cells e)):=by
  have Up: ¬(16777216<len*sz):=G
  by_cases h0:len*sz=0
  ·have e0: ∀f:Nat->Value,Array.map f (Array.range 0)= #[]:=λf=>by simp[Array.range_zero']
   rw[h0,e0] at yb;simp[Instr.buildSlice,lq ht,sizeOf,typeInfo,hi,tz,h0,Kv,newRow,yb,e0]
  ·have hb:Nat.beq (len*sz) 0=false:=by
    cases hb:Nat.beq (len*sz) 0 with
    |true=>exact absurd (ww hb) h0
    |false=>rfl
   simp only[hb,cond_false] at yb;simp[Instr.buildSlice,lq ht,sizeOf,typeInfo,hi,tz,h0,zeroValue,sf,newRow,Kv,yb,Up]
 unfold Oper.wp;simp only[execOp,ho,jm,hr,jk,lv,Oper.upon];exact hk _ _ _ (hp.new cells e len sz (by unfold maxLen;omega) hc) ⟨_,rfl,rfl⟩
theorem aLm (l vs:List Value) (j k:Nat) (h1:j+vs.length<=k) (h2:k<=l.length):(l.take j++vs++l.drop (j+vs.length)).take k=(l.take k).take j++vs++(l.take k).drop (j+vs.length):=by
 apply su;intro i;simp only[oh,List.getElem?_append,ah,ax,qc];have e1:min j l.length=j:=G
 have e2:min j (min k l.length)=j:=G
 rw[e1,e2];by_cases hi:i<k
 ·by_cases hj:i<j
  ·simp[hi,hj,show i<j+vs.length by omega]
  ·by_cases hv:i<j+vs.length
   ·simp[hi,hj,hv]
   ·have:j+vs.length+(i-(j+vs.length))=i:=G
    simp[hi,hv,this]
 ·have h4: ¬i<j+vs.length:=G
  have:j+vs.length+(i-(j+vs.length))=i:=G
  simp[hi,h4,this]
theorem Row.lies_seg {w:World} {r:Row} (h:r.lies B w) (li:r.ro=false) {g:Nat} (hA:r.A=some ⟨g,0,none⟩) (j:Nat) (vs:List Value) (hj:j+vs.length<=r.xs.length) (h1: ∀v∈vs,v.oneCell'=true) {t:TypeId} {v:Value} (hv:v.cells.toList=vs) (ee:(P.info? t).map (·.size)=some vs.length):
  ∃w',(storeVar t ((⟨g,0,none⟩:Addr).add j) v).run P w= .ok () w'/\w.grownBy w' (some g)/\Row.lies B w' {r with xs:=r.xs.take j++vs++r.xs.drop (j+vs.length)}:=by
 have hw:=Row.lies_w h li;rcases hw.2 with⟨hn,_⟩|⟨g',cap,cur,hs,hb,hg,hnc,pj,hcs,ht⟩
 ·rw[hA] at hn;cases hn
 ·rw [hA] at hs;simp only[jq,lm,Ab,Aa,zm] at hs;obtain⟨rfl,rfl⟩:=hs;have Gk:r.xs.length=r.n*r.sz:=hw.1;have mj:r.n*r.sz<=cur.size:=by rw[hcs];exact ug _ hnc
  have Cd:(⟨g,0,none⟩:Addr).add j=⟨g,j,none⟩:=by unfold Addr.add;split<;>simp_all
  have hr:=run_storeCells_at P g j r.e vs 0 cur w hg cG h1;simp only[qa] at hr;obtain⟨i0,ar,hsz0⟩:=ib.1 ee;have hvl:v.cells.size=vs.length:=by rw[<-jl,hv]
  refine⟨w.setRow g (cur.toList.take j++vs++cur.toList.drop (j+vs.length)).toArray,?_,⟨rfl,rfl,rfl,cD,λk _ hk=>Ij w g k _ (λe=>hk (by simp[e]))⟩,?_⟩
  ·rw [Cd];have da: ¬(v.cells.size≠vs.length):=G
   simp only[storeVar,jm,sizeOf,typeInfo,program,Sem.run,jk,ar,lv,hsz0,da,wu,hv];exact hr
  ·unfold Row.lies;simp only[li];refine⟨?_, .inr ⟨g,r.c,_,by rw[hA],hb,Jh w g cur _ r.e _ hg,hnc,pj,?_,?_⟩⟩
   ·simp only[ah,ax,bg];omega
   ·simp only[pz,ah,ax,bg,jl];omega
   ·simp only;rw[aLm _ _ _ _ G (by rw[jl];omega),ht]
theorem JY {x y:Operand} {t:TypeId} {p:Option Addr} {j:Nat} {r:Row} {v:Value} {vs:List Value} {g:Nat} (i:Nat) (hi:R[i]? =some r) (li:r.ro=false) (hA:r.A=some ⟨g,0,none⟩) (ee:(P.info? t).map (·.size)=some vs.length) (hx:ev L x=some (.pointer p)) (bw:p=pat r.A j) (hy:ev L y=some v) (hv:v.cells.toList=vs) (h1: ∀v∈vs,v.oneCell'=true) (hj:j+vs.length<=r.xs.length):
  Ac P n B w0 (.store t x y) ty L R (λ_ R'=>R'=R.set i {r with xs:=r.xs.take j++vs++r.xs.drop (j+vs.length)}):=by
 intro a w o K Q ho _ hs hp hk;subst bw;obtain⟨w',hr,hg,hl⟩:=Row.lies_seg (P:=P) (hp.own r (ek hi)) li hA j vs hj h1 hv ee;unfold Oper.wp;simp only[execOp,ho,Instr.storeAt,hs.ev hx,hs.ev hy,pat,hA,jr,Instr.sureAddr,jm,lv,jk,hr,Oper.upon];refine hk undef w' _ ?_ rfl;refine hp.upd hi hg (FW _ _ _ _ hr) (λk hk=> ?_) hl (λa' ki=> .inl ⟨a',ki,rfl⟩);obtain rfl:=iw hk;exact⟨_,hA,rfl⟩
theorem aTf (l:List Value) (j:Nat) (v:Value) (h:j<l.length):l.take j++[v]++l.drop (j+1)=l.set j v:=by
 rw[Ch,cu h];simp
theorem QQ {x y:Operand} {t:TypeId} {p:Option Addr} {j:Nat} {r:Row} {v:Value} {g:Nat} (i:Nat) (hi:R[i]? =some r) (li:r.ro=false) (hA:r.A=some ⟨g,0,none⟩) (ee:(P.info? t).map (·.size)=some 1) (hx:ev L x=some (.pointer p)) (bw:p=pat r.A j) (hy:ev L y=some v) (hv:v.cells.toList=[v]) (h1:v.oneCell'=true) (hj:j<r.xs.length):
  Ac P n B w0 (.store t x y) ty L R (λ_ R'=>R'=R.set i {r with xs:=r.xs.set j v}):=by
 have:=JY (P:=P) (n:=n) (B:=B) (w0:=w0) (ty:=ty) i hi li hA (vs:=[v]) ee hx bw hy hv (by simpa using h1) (by rw[ic];omega);simpa only[ic,aTf _ _ _ hj] using this
theorem rJ {s x:Operand} {t:TypeId} {z:Value} {bytes m c2:Nat} {A2:Option Addr} {r:Row} {news:List Value} (i:Nat) (hi:R[i]? =some r) (li:r.ro=false) (ht:P.underlying t=some (.slice r.e)) (co:(P.info? r.e).map (λi=>(i.zero,i.size,i.bytes))=some (some z,r.sz,bytes)) (hz:z.cells.size=r.sz) (hsz:Nat.blt 0 r.sz=true) (a7:Nat.blt 0 bytes=true)
  (hs:ev L s=some (.slice r.A r.n r.c)) (hx:ev L x=some (.slice A2 m c2)) (ie:RdC B w0 R A2 m c2 r.sz news) (h1: ∀u∈news,u.oneCell'=true) (gs:(r.n+m)*bytes<=140737488355328):
  Ac P n B w0 (.call {callee:= .builtin .append,args:= #[s,x],argTypes:= #[t,t]}) ty L R (λv R'=> ∃A' c',v= .slice A' (r.n+m) c'/\R'=R.set i ⟨r.e,r.sz,A',r.n+m,c',r.xs++news,false⟩):=by
 intro a w o K Q ho _ dg hp hk;obtain⟨i0,ar,ua⟩:=ib.1 co;simp only[xh] at ua;obtain⟨sf,tz,g7⟩:=ua;have Lv:=au hsz;have Tm:=au a7;have hr:=hp.own r (ek hi);have du:=Row.lies_w hr li;have vt:=ie w hp;have hlen:r.n+m<=140737488355328:=sw (Nat.le_mul_of_pos_right _ Tm) gs
 have ld: ∃v' w',(Builtin.append_ #[t,t] o.type #[.slice r.A r.n r.c, .slice A2 m c2]).run P w= .ok v' w'/\w'.ownsRow B r.e r.sz v' (r.n+m) (r.xs++news)/\w.grownBy w' (Value.ownBlock (.slice r.A r.n r.c))/\(v'.ownBlock=Value.ownBlock (.slice r.A r.n r.c)\/v'.ownBlock=some w.heap.size):=by
  rcases dx m with h0|h0
  ·subst h0;have hn:news=[]:=ed (by rw[vt.len];omega);subst hn;rcases A2 with _|ad
   ·refine ⟨_,w,?_,by simpa using du,World.grownBy_refl' w _, .inl rfl⟩;rcases du.2 with⟨hv,hn⟩|⟨g,cap,cur,hv,_,_,hnc,_⟩
    ·rw [hv];simp[Builtin.append_,lq ht,sizeOf,typeInfo,ar,Builtin.lenOf,Builtin.firstCells]
    ·rw [hv];simp[Builtin.append_,lq ht,sizeOf,typeInfo,ar,Builtin.lenOf,Builtin.firstCells,hnc,storeCells]
   ·obtain ⟨v',w',h2,h3,h4,_,h5⟩:=run_append_own_at (P:=P) w B t o.type r.e i0 z r.sz bytes ht ar sf tz g7 hz Lv _ r.n r.xs du ad 0 c2 [] cD (λj u hu=>by simp at hu) h1 (by unfold maxLen;omega) gs hp.base;exact⟨v',w',h2,h3,h4,h5⟩
  ·have da:0<news.length:=by rw[vt.len];exact Iw h0 Lv
   obtain⟨ad,rfl,_⟩:=vt.at_ 0 news[0] cD
   obtain⟨v',w',h2,h3,h4,_,h5⟩:=run_append_own_at (P:=P) w B t o.type r.e i0 z r.sz bytes ht ar sf tz g7 hz Lv _ r.n r.xs du ad m c2 news vt.len (λj u hu=>by
    obtain⟨a',ki,hc⟩:=vt.at_ j u hu;obtain rfl:=iw ki
    exact hc) h1 (by unfold maxLen;omega) gs hp.base
   exact⟨v',w',h2,h3,h4,h5⟩
 obtain⟨v',w',h2,h3,h4,h5⟩:=ld
 have l7: ∃A' c',v'= .slice A' (r.n+m) c':=by
  rcases h3.2 with⟨rfl,hn⟩|⟨g,cap,cur,rfl,_⟩
  ·exact⟨none,0,by rw[hn]⟩
  ·exact⟨_,cap,rfl⟩
 obtain⟨A',c',rfl⟩:=l7;unfold Oper.wp execOp;simp only[ho,resolve,invoke,builtin,jm,lv,jk,rf,kv,qi,dg.ev hs,dg.ev hx,h2,Oper.upon];refine hk _ w' _ ?_ ⟨A',c',rfl,rfl⟩;refine hp.upd hi h4 (FW _ _ _ _ h2) (λk hk=> ?_) ?_ (λa' ki=> ?_)
 ·cases hA:r.A with
  |none=>rw[hA] at hk;simp[Value.ownBlock] at hk
  |some a1=>rw[hA] at hk;simp only[Value.ownBlock,lm] at hk;exact⟨a1,rfl,hk⟩
 ·exact h3
 ·have By:A'=some a':=ki;subst By;rcases h5 with h5|h5
  ·cases hA:r.A with
   |none=>rw[hA] at h5;simp[Value.ownBlock] at h5
   |some a1=>rw[hA] at h5;simp only[Value.ownBlock,lm] at h5;exact .inl ⟨a1,rfl,h5.symm⟩
  ·simp only[Value.ownBlock,lm] at h5;exact .inr G
end
end Go.Eng
namespace Go.Eng
open Go Go.RowKit
def bK (P:Program) {α:Type} (m:Sem α):Prop:= ∀w w1 v,m.run P w= .ok v w1-> ∀w',m.run P w'= .ok v w'
def kC (P:Program) {α:Type} (m:Sem α):Prop:= ∀w w1 v,m.run P w≠ .ok v w1
section
variable {P:Program} {α β:Type}
theorem kC.free {m:Sem α} (h:kC P m):bK P m:=λw w1 v e=>absurd e (h w w1 v)
theorem bK.pure (a:α):bK P (Pure.pure a:Sem α):=λw w1 v h w'=>by
 simp only[lv,Br] at h ⊢;exact⟨h.1,trivial⟩
theorem bK.bind {m:Sem α} {f:α->Sem β} (hm:bK P m) (hf: ∀a,bK P (f a)):bK P (m>>=f):=λw w1 v h w'=>by
 rw[jm] at h ⊢;cases hr:m.run P w with
 |halt x w2=>rw[hr] at h;cases h
 |ok a w2=>
  rw[hr] at h;rw[hm w w2 a hr w'];exact hf a w2 w1 v h w'
theorem kC.bind {m:Sem α} {f:α->Sem β} (hf: ∀a,kC P (f a)):kC P (m>>=f):=λw w1 v h=>by
 rw[jm] at h;cases hr:m.run P w with
 |halt x w2=>rw[hr] at h;cases h
 |ok a w2=>
  rw[hr] at h;exact hf a w2 w1 v h
theorem kC.left {m:Sem α} {f:α->Sem β} (hm:kC P m):kC P (m>>=f):=λw w1 v h=>by
 rw[jm] at h;cases hr:m.run P w with
 |halt x w2=>rw[hr] at h;cases h
 |ok a w2=>exact hm w w2 a hr
theorem cZ (x:Halt):kC P (.halt x:Sem α):=λw w1 v h=>by cases h
theorem uF (e:RuntimeError):kC P (runtimePanic e:Sem α):=by
 unfold runtimePanic;refine kC.bind λp=> ?_;cases e with
 |typeAssertion i c a m=>exact kC.bind λ_=>kC.bind λ_=>cZ _
 |panicNil=>exact kC.bind λ_=>kC.bind λ_=>cZ _
 |_=>exact cZ _
theorem uK (t:TypeId):bK P (underlying t):=by
 unfold underlying;refine bK.bind (λw w1 v h w'=> ?_) λp=> ?_
 ·simp only[program,Sem.run,Br] at h ⊢;exact⟨h.1,trivial⟩
 ·split
  ·exact bK.pure _
  ·exact(cZ _).free
theorem NK (t:TypeId):bK P (typeInfo t):=by
 unfold typeInfo;refine bK.bind (λw w1 v h w'=> ?_) λp=> ?_
 ·simp only[program,Sem.run,Br] at h ⊢;exact⟨h.1,trivial⟩
 ·split
  ·exact bK.pure _
  ·exact(cZ _).free
theorem oI (t:TypeId):bK P (sizeOf t):=bK.bind (NK t) λ_=>bK.pure _
theorem mX (x:Value) (y:Nat) (c:BoundsCode):bK P (Instr.sliceBound x y c):=by
 unfold Instr.sliceBound;refine bK.bind ?_ λp=> ?_
 ·unfold asIntOf;split
  ·exact bK.pure _
  ·exact(cZ _).free
  ·exact(cZ _).free
 ·obtain ⟨k,i⟩:=p;simp only;split
  ·exact bK.pure _
  ·unfold boundsPanic;dsimp only;split
   ·exact(kC.bind λ_=>uF _).free
   ·exact(kC.bind λ_=>uF _).free
theorem qC (b:Bool) (n c:Nat) (lo hi mx:Option Value):bK P (Instr.sliceBounds b n c lo hi mx):=by
 unfold Instr.sliceBounds;cases mx with
 | none=>
  refine bK.bind (bK.pure _) λm=> ?_;cases hi with
  |none=>
   refine bK.bind (bK.pure _) λh=> ?_;cases lo with
   |none=>exact bK.bind (bK.pure _) λl=>bK.pure _
   |some v=>exact bK.bind (mX _ _ _) λl=>bK.pure _
  |some u=>
   refine bK.bind (mX _ _ _) λh=> ?_;cases lo with
   |none=>exact bK.bind (bK.pure _) λl=>bK.pure _
   |some v=>exact bK.bind (mX _ _ _) λl=>bK.pure _
 | some x=>
  refine bK.bind (mX _ _ _) λm=> ?_;cases hi with
  |none=>exact(kC.left (cZ _)).free
  |some u=>
   refine bK.bind (mX _ _ _) λh=> ?_;cases lo with
   |none=>exact bK.bind (bK.pure _) λl=>bK.pure _
   |some v=>exact bK.bind (mX _ _ _) λl=>bK.pure _
theorem aIk (x:Value):bK P (asAddr x):=by
 unfold asAddr;split
 ·exact bK.pure _
 ·exact(uF _).free
 ·exact(cZ _).free
theorem aAf (t:TypeId) (x:Value) (lo hi mx:Option Value):bK P (Instr.slice t x lo hi mx):=by
 unfold Instr.slice;refine bK.bind (uK t) λd=> ?_;split
 ·split
  ·exact(kC.left (cZ _)).free
  ·exact bK.bind (qC _ _ _ _ _ _) λ_=>bK.pure _
 ·exact bK.bind (qC _ _ _ _ _ _) λ_=>bK.bind (oI _) λ_=>bK.pure _
 ·refine bK.bind (aIk _) λ_=>bK.bind (uK _) λ_=> ?_;split
  ·exact bK.bind (qC _ _ _ _ _ _) λ_=>bK.bind (oI _) λ_=>bK.pure _
  ·exact(cZ _).free
 ·exact(cZ _).free
theorem aIi (x:Value):bK P (Instr.sureAddr x):=by
 unfold Instr.sureAddr;split
 ·exact bK.pure _
 ·exact(cZ _).free
theorem QB (t:TypeId) (x:Value) (lo hi mx:Option Value):bK P (Instr.sliceAt t x lo hi mx):=by
 unfold Instr.sliceAt;refine bK.bind (uK t) λd=> ?_;split
 ·exact bK.bind (aIi _) λ_=>bK.bind (qC _ _ _ _ _ _) λ_=>bK.bind (oI _) λ_=>bK.pure _
 ·exact aAf _ _ _ _ _
end
def bBo (P:Program) {α:Type} (m:Sem α):Prop:= ∀w v,m.run P w= .ok v w-> ∀w',m.run P w'= .ok v w'
def gT (P:Program) {α:Type} (m:Sem α):Prop:= ∀w v,m.run P w≠ .ok v w
section
variable {P:Program} {α β:Type}
theorem bK.stay {m:Sem α} (h:bK P m):bBo P m:=λw v e=>h w w v e
theorem gT.stay {m:Sem α} (h:gT P m):bBo P m:=λw v e=>absurd e (h w v)
theorem kC.noSame {m:Sem α} (h:kC P m):gT P m:=λw v e=>h w w v e
theorem gT.bind {m:Sem α} {f:α->Sem β} (hm:bK P m) (hf: ∀a,gT P (f a)):gT P (m>>=f):=λw v h=>by
 rw[jm] at h;cases hr:m.run P w with
 |halt x w2=>rw[hr] at h;cases h
 |ok a w2=>
  have h2:=hm w w2 a hr w;rw[hr] at h2;cases h2;rw[hr] at h;exact hf a w v h
theorem gT.left {m:Sem α} {f:α->β} (hm:gT P m):gT P (m>>=λa=>(Pure.pure (f a):Sem β)):=λw v h=>by
 rw[jm] at h;cases hr:m.run P w with
 |halt x w2=>rw[hr] at h;cases h
 |ok a w2=>
  rw[hr] at h;simp only[Result.andThen,lv,Br] at h;rw[h.2] at hr;exact hm w a hr
theorem NJ (t:TypeId):bK P (zeroValue t):=by
 unfold zeroValue;refine bK.bind (NK t) λi=> ?_;split
 ·exact bK.pure _
 ·exact(cZ _).free
theorem qG (e:TypeId) (cs:Array Value):gT P (newRow e cs):=λw v h=>by
 simp[newRow,newObj,Sem.run,Result.andThen] at h;have:=bz (λw:World=>w.heap.size) h.2;unfold World.alloc at this;simp only[Array.size_push] at this;omega
theorem IX (f:α->Sem β) (hf: ∀a,bK P (f a)): ∀l:List α,bK P (l.mapM f)
 |[]=>by rw[List.mapM_nil];exact bK.pure _
 |a::l=>by
  rw[List.mapM_cons];exact bK.bind (hf a) λ_=>bK.bind (IX f hf l) λ_=>bK.pure _
theorem aIj (f:α->Sem β) (hf: ∀a,bK P (f a)) (l:Array α):bK P (l.mapM f):=by
 rw[Array.mapM_eq_mapM_toList,<-bind_pure_comp];exact bK.bind (IX f hf _) λ_=>bK.pure _
theorem aAg (t:TypeId) (ps:Array (Nat × Value)):bK P (Instr.build t ps):=by
 unfold Instr.build;refine bK.bind (NJ t) λz=> ?_;refine bK.bind (uK t) λd=> ?_;split
 ·refine bK.bind (aIj _ (λ_=>bK.bind (oI _) λ_=>bK.pure _) _) λ_=> ?_;split
  ·exact bK.pure _
  ·exact(cZ _).free
 ·refine bK.bind (oI _) λ_=> ?_;split
  ·exact bK.pure _
  ·exact(cZ _).free
 ·exact(cZ _).free
theorem yT (t:TypeId) (n:Nat) (ps:Array (Nat × Value)):gT P (Instr.buildSlice t n ps):=by
 unfold Instr.buildSlice;refine gT.bind (uK t) λd=> ?_;split
 ·refine gT.bind (oI _) λs=> ?_;dsimp only;split
  ·exact(kC.left (cZ _)).noSame
  ·split
   ·refine gT.bind (bK.pure _) λz=> ?_;split
    ·exact gT.left (qG _ _)
    ·exact(cZ _).noSame
   ·refine gT.bind (NJ _) λz=> ?_;refine gT.bind (bK.pure _) λz=> ?_;split
    ·exact gT.left (qG _ _)
    ·exact(cZ _).noSame
 ·exact(cZ _).noSame
theorem ZM (t:TypeId) (v:Value):gT P (Instr.box t v):=gT.left (qG _ _)
end
def aPc:Op->Bool
 | .move _=>true
 | .slice .. =>true
 | .build .. =>true
 | .buildSlice .. =>true
 | .box .. =>true
 | .extract .. =>true
 |_=>false
theorem QC {P:Program} (v:Value) (i:Nat):bK P (Instr.extract v i):=by
 unfold Instr.extract
 repeat' first
  |exact bK.pure _
  |exact(cZ _).free
  |split
theorem aVp {P:Program} {o:Oper} (h:aPc o.op=true) (ρ:Operand->Value):bBo P (execOp ρ o):=by
 unfold execOp;cases ho:o.op<;>(try (rw[ho] at h;cases h))
 all_goals first
  |exact(bK.pure _).stay
  |exact(gT.left (ZM _ _)).stay
  |exact(bK.bind (aAg _ _) λ_=>bK.pure _).stay
  |exact(gT.left (yT _ _ _)).stay
  |exact(bK.bind (QB _ _ _ _ _) λ_=>bK.pure _).stay
  |exact(bK.bind (QC _ _) λ_=>bK.pure _).stay
section
variable {P:Program} {ops:Array Oper} {Q:Exit->Act->World->Prop}
def anc (ops:Array Oper):Nat->Nat->Nat->Bool
 |0,_,_=>false
 |f+1,j,k=>((ops[j]?).map (·.after.any λe=>Region.binds .any e && (Nat.beq e.on k||anc ops f e.on k))).getD false
def XD (ops:Array Oper) (ab:Array Bool) (i:Nat):Bool:=
 (List.range ops.size).all λk=> !ab.getD k false||anc ops ops.size i k||((ops[k]?).map (aPc ·.op)).getD false
def sK (ops:Array Oper) (ab:Array Bool):Bool:=
 (List.range ops.size).all λk=> !ab.getD k false||((ops[k]?).map (·.after.all λe=> !Region.binds .any e||ab.getD e.on false)).getD false
theorem zR {ab:Array Bool} (h:sK ops ab=true) {k:Nat} {o:Oper} (hk:ops[k]? =some o) (hl:ab.getD k false=true): ∀e∈o.after,Region.binds .any e=true->ab.getD e.on false=true:=by
 intro e he hb;have aw:k<ops.size:=(dz.1 hk).1;have:=xc.1 h k (ji.2 aw);rw[hl,hk] at this;simp only[Di,Gp,jr,mh] at this;obtain⟨q,hq,rfl⟩:=Array.mem_iff_getElem.1 he;have h2:=Fp.1 this q hq;rw[hb] at h2;simpa using h2
theorem JW {ab:Array Bool} (hc:sK ops ab=true): ∀(f j k:Nat) (oj:Oper),ops[j]? =some oj->(∀e∈oj.after,Region.binds .any e=true->ab.getD e.on false=true)->anc ops f j k=true->ab.getD k false=true
 |0,_,_,_,_,_,h=>by cases h
 | f+1,j,k,oj,Fi,iz,h=>by
  unfold anc at h;rw[Fi] at h;simp only[jr,mh,Array.any_eq_true] at h;obtain⟨q,hq,h⟩:=h;have he:oj.after[q]∈oj.after:=Fq hq;simp only[qj,zx] at h;have hl:=iz _ he h.1;rcases h.2 with h2|h2
  ·rw[<-ww h2];exact hl
  ·cases ho:ops[oj.after[q].on]? with
   |none=>
    exfalso;cases f with
    |zero=>cases h2
    |succ f=>unfold anc at h2;rw[ho] at h2;simp at h2
   |some om=>exact JW hc f _ k om ho (zR hc ho hl) h2
theorem WT {ab:Array Bool} (hc:sK ops ab=true) {j:Nat} {oj:Oper} (Fi:ops[j]? =some oj) (iz: ∀e∈oj.after,Region.binds .any e=true->ab.getD e.on false=true):sK ops (ab.setIfInBounds j true)=true:=by
 have up: ∀k,ab.getD k false=true->(ab.setIfInBounds j true).getD k false=true:=by
  intro k hk;by_cases e:j=k
  ·subst e
   have aw:j<ab.size:=by
    rcases fe j ab.size with h|h
    ·exact h
    ·simp[Ci h] at hk
   simp[aw]
  ·simp only[xw,zw,e,wu] at hk ⊢;exact hk
 unfold sK;refine xc.2 λk hk=> ?_;by_cases Mo:k=j
 ·subst Mo;rw[Fi];simp only[jr,mh]
  have:(oj.after.all λe=> !Region.binds .any e||(ab.setIfInBounds k true).getD e.on false)=true:=by
   refine Fp.2 λq hq=> ?_;cases hb:Region.binds .any oj.after[q] with
   |false=>rfl
   |true=>simp only[Di,Gp];exact up _ (iz _ (Fq hq) hb)
  rw[this,Bool.or_true]
 ·cases hl:ab.getD k false with
  | false=>
   have:(ab.setIfInBounds j true).getD k false=false:=by
    simp only[xw,zw,Fz Mo,wu] at hl ⊢;exact hl
   rw[this];rfl
  | true=>
   cases ho:ops[k]? with
   |none=>
    have h0:=ji.1 hk;rw[Array.getElem?_eq_none_iff] at ho;omega
   | some ok=>
    have h1:=zR hc ho hl
    have:(ok.after.all λe=> !Region.binds .any e||(ab.setIfInBounds j true).getD e.on false)=true:=by
     refine Fp.2 λq hq=> ?_;cases hb:Region.binds .any ok.after[q] with
     |false=>rfl
     |true=>simp only[Di,Gp];exact up _ (h1 _ (Fq hq) hb)
    simp only[jr,mh,this,Bool.or_true]
def wJ (P:Program) (ops:Array Oper) (Q:Exit->Act->World->Prop):Nat->(World->Prop)->Array Bool->Act->World->Prop
 |0,_,ab,a,w=>Region.ready .any ops ab=[]/\Q .normal a w
 |fuel+1,S,ab,a,w=>(Region.ready .any ops ab=[]->Q .normal a w)/\
  ∀i∈Region.ready .any ops ab,wpOp P ops Q i (λa' w'=> ∃S':World->Prop,S' w'/\(XD ops ab i=true\/ ∀x,S' x->S x)/\wJ P ops Q fuel S' (ab.setIfInBounds i true) a' w') a w
theorem wI: ∀(fuel:Nat) (S:World->Prop) (ab:Array Bool) (a:Act) (w:World),wJ P ops Q fuel S ab a w->wpAny P .any ops Q fuel ab a w
 |0,_,_,_,_,h=>h
 |fuel+1,_,_,_,_,h=>⟨h.1,λi hi=>wpOp_mono (λa' w' ⟨S',_,_,h'⟩=>wI fuel S' _ a' w' h') (h.2 i hi)⟩
theorem YieldsIf.shrink {S S':World->Prop} {o:Oper} {v:Value} {a:Act} (h:YieldsIf P ops S o v a) (hs: ∀x,S' x->S x):YieldsIf P ops S' o v a:=
 h.imp (λ⟨hw,hv⟩=>⟨hw,λw Jp=>hv w (hs w Jp)⟩) id
theorem xP {i:Nat} {oi:Oper} {v:Value} (hi:ops[i]? =some oi) (Qe: ∀(j:Nat) (o:Oper) cs b,ops[j]? =some o->o.op≠ .select cs b)
  (hQ: ∀c a w,Q (.panic c) (a.put oi.dst v) w->Q (.panic c) a w):
  ∀(fuel:Nat) (S:World->Prop) (ab:Array Bool) (a:Act) (w:World),
   sK ops ab=true->(∀j oj,ops[j]? =some oj->j≠i->ab.getD j true=false->(∀e∈oj.after,Region.binds .any e=true->e.on≠i)->oi.apart ops oj=true)->
   i∈Region.ready .any ops ab->YieldsIf P ops S oi v a->S w->
   wJ P ops Q fuel S (ab.setIfInBounds i true) (a.put oi.dst v) w->wJ P ops Q (fuel+1) S ab a w:=by
 intro fuel
 induction fuel with
 | zero=>
  intro S ab a w _ _ hr hy hS H;refine⟨λh=>(by rw[h] at hr;cases hr),λj hj=> ?_⟩;by_cases b7:j=i
  ·subst b7;exact hy.wpOp hi hS ⟨S,hS, .inr λ_ h=>h,H⟩
  ·have:=ready_mono hj b7;rw[H.1] at this;cases this
 | succ fuel ih=>
  intro S ab a w kc Ik hr hy hS H;refine⟨λh=>(by rw[h] at hr;cases hr),λj hj=> ?_⟩;by_cases b7:j=i
  ·subst b7;exact hy.wpOp hi hS ⟨S,hS, .inr λ_ h=>h,H⟩
  ·have h1:=H.2 j (ready_mono hj b7);obtain⟨Oz,oj,Fi,iz⟩:=mem_ready.1 hj
   have th:i<ab.size:=by
    have h0:=(mem_ready.1 hr).1;rcases fe i ab.size with h'|h'
    ·exact h'
    ·simp[Ci h'] at h0
   have Fd: ∀e∈oj.after,Region.binds .any e=true->e.on≠i:=λe he hb b6=>by
    have h1:=iz e he hb;have h0:=(mem_ready.1 hr).1;rw[b6] at h1;simp[th] at h0 h1;rw[h0] at h1;cases h1
   have h2:=wpOp_putIf Fi (Ik j oj Fi b7 Oz Fd) (λcs b=>Qe i oi cs b hi) (λcs b=>Qe j oj cs b Fi) hQ hy h1
   have Ky: ∀k ok,ops[k]? =some ok->k≠i->(ab.setIfInBounds j true).getD k true=false->
     (∀e∈ok.after,Region.binds .any e=true->e.on≠i)->oi.apart ops ok=true:=λk ok hk hki o8 nj=>by
    refine Ik k ok hk hki ?_ nj;by_cases Xg:j=k
    ·subst Xg;exact Oz
    ·rw[getD_set_ne true Xg] at o8;exact o8
   refine wpOp_mono (λa' w' ⟨Vr,S',Wp,xl,hB⟩=> ?_) h2
   have o8:ab.getD i false=false:=by
    have h0:=(mem_ready.1 hr).1;simp[th] at h0 ⊢;exact h0
   have Id:(XD ops ab j=true\/ ∀x,S' x->S x)/\YieldsIf P ops S' oi v a':=by
    rcases xl with hb|hs
    ·have hio:i<ops.size:=(dz.1 hi).1;have rj:=xc.1 hb i (ji.2 hio);have e1:(ab.setIfInBounds i true).getD i false=true:=by simp[th]
     rw[e1,hi] at rj;simp only[Di,Gp,jr,mh,zx] at rj;rcases rj with ha|hm
     ·have:=JW kc _ j i oj Fi iz ha;rw[o8] at this;cases this
     ·refine ⟨.inl ?_,?_⟩
      ·refine xc.2 λk hk=> ?_;have h3:=xc.1 hb k hk;by_cases e:i=k
       ·subst e;rw[o8];rfl
       ·simp only[xw,zw,e,wu] at h3 ⊢;exact h3
      ·exact Vr.imp (λ⟨hw,hv⟩=>⟨hw,λMd _=>aVp hm _ _ _ (hv w hS) Md⟩) id
    ·exact⟨.inr hs,YieldsIf.shrink Vr hs⟩
   refine⟨S',Wp,Id.1,ih S' (ab.setIfInBounds j true) a' w' (WT kc Fi iz) Ky (ready_mono hr (Fz b7)) Id.2 Wp ?_⟩;rw[Array.setIfInBounds_comm _ _ b7];exact hB
end
section
variable {P:Program} {n:Nd} {B:Nat} {w0:World} {ops:Array Oper} {K:Env->List Row->Prop} {L:Env} {R:List Row} {op:Op} {ty:TypeId} {pos:String} {ml:Array Edge}
def WD (P:Program) (n:Nd) (B:Nat) (w0:World) (ops:Array Oper) (K:Env->List Row->Prop) (fuel:Nat) (ab:Array Bool) (L:Env) (R:List Row):Prop:=
 ∀a w (Q:Exit->Act->World->Prop),Sat n L a->Hp B w0 w R->(∀c a w,¬Q (.panic c) a w)->(∀a' w' L' R',Sat n L' a'->Hp B w0 w' R'->K L' R'->Q .normal a' w')->wJ P ops Q fuel (λw=>Hp B w0 w R) ab a w
theorem bT {id:Nat} {l:List Oper} {Q:eH} (hm:P.follows .mixedOrders=true) (h:WD P n B w0 l.toArray Q.nrm l.toArray.size (Array.replicate l.toArray.size false) L R) (hd:yV n.rd l=true:=by exact rfl):W P n B w0 (.region id l.toArray true) Q L R:=by
 intro a w hs hp;refine wpIn_region_any hm (XH aCc hd _ _ _ _<|wI _ _ _ _ _ (h a _ _ hs (hp.drawn _ (Fy _)) (λ_ _ _ h=>h) λ_ _ L' R' dg bw hk=>⟨L',R',dg,bw,hk⟩))
def chk (ops:Array Oper) (ab:Array Bool) (i:Nat):Bool:=Region.noSelect ops && Region.free .any ops ab i && (Region.ready .any ops ab).contains i && sK ops ab
theorem DY {i:Nat} {d:Nat} {v:Value} {o:Oper} {fuel:Nat} {ab:Array Bool} (hi:ops[i]? =some o) (hd:o.dst=some d) (hc:chk ops ab i=true) (hn:Nat.blt d n=true)
  (hy: ∀a,Sat n L a->YieldsIf P ops (λw=>Hp B w0 w R) o v a) (h:WD P n B w0 ops K fuel (ab.setIfInBounds i true) ((d,v)::L) R):WD P n B w0 ops K (fuel+1) ab L R:=by
 intro a w Q hs hp pk hq;simp only[chk,qj] at hc;obtain⟨⟨⟨h1,h2⟩,h3⟩,h4⟩:=hc;refine xP hi (Region.noSelect_spec h1) (λc a w hh=>(pk c _ w hh).elim) fuel _ ab a w h4 (Region.free_spec hi h2) (by simpa using h3) (hy a hs) hp ?_;rw[hd];exact h _ w Q (hs.put hn v) hp pk hq
theorem bFz {d:Nat} {v:Value} {fuel:Nat} {ab:Array Bool} (i:Nat) (hi:ops[i]? =some {dst:=some d,op:=op,type:=ty,pos:=pos,after:=ml,guard:=none}) (hc:chk ops ab i=true) (hn:Nat.blt d n=true)
  (hy:Yl P n B w0 op ty L R v) (h:WD P n B w0 ops K fuel (ab.setIfInBounds i true) ((d,v)::L) R):WD P n B w0 ops K (fuel+1) ab L R:=
 DY hi rfl hc hn (λa hs=> .inl ⟨rfl,λw hw=>hy a w _ rfl rfl hs hw⟩) h
theorem bCl {d j e:Nat} {want:Bool} {v:Value} {fuel:Nat} {ab:Array Bool} (i:Nat) (hi:ops[i]? =some {dst:=some d,op:=op,type:=ty,pos:=pos,after:=ml,guard:=some (j,want)}) (hc:chk ops ab i=true) (hn:Nat.blt d n=true)
  (hj:(ops[j]?).bind (·.dst)=some e) (hb:lk L e=some (.bool want)) (hy:Yl P n B w0 op ty L R v) (h:WD P n B w0 ops K fuel (ab.setIfInBounds i true) ((d,v)::L) R):WD P n B w0 ops K (fuel+1) ab L R:=
 DY hi rfl hc hn (λa hs=> .inl ⟨by simp[Region.wanted,oL hs hj hb],λw hw=>hy a w _ rfl rfl hs hw⟩) h
theorem bCm {d j e:Nat} {want b:Bool} {fuel:Nat} {ab:Array Bool} (i:Nat) (hi:ops[i]? =some {dst:=some d,op:=op,type:=ty,pos:=pos,after:=ml,guard:=some (j,want)}) (hc:chk ops ab i=true) (hn:Nat.blt d n=true)
  (hj:(ops[j]?).bind (·.dst)=some e) (hb:lk L e=some (.bool b)) (da:(b==want)=false) (h:WD P n B w0 ops K fuel (ab.setIfInBounds i true) ((d,undef)::L) R):WD P n B w0 ops K (fuel+1) ab L R:=
 DY hi rfl hc hn (λa hs=> .inr ⟨by simp only[Region.wanted,oL hs hj hb];cases b<;>cases want<;>simp_all,rfl⟩) h
theorem EZ {d j e:Nat} {want:Bool} {fuel:Nat} {ab:Array Bool} (i:Nat) (hi:ops[i]? =some {dst:=some d,op:=op,type:=ty,pos:=pos,after:=ml,guard:=some (j,want)}) (hc:chk ops ab i=true) (hn:Nat.blt d n=true)
  (hj:(ops[j]?).bind (·.dst)=some e) (hb:lk L e=some undef) (h:WD P n B w0 ops K fuel (ab.setIfInBounds i true) ((d,undef)::L) R):WD P n B w0 ops K (fuel+1) ab L R:=
 DY hi rfl hc hn (λa hs=> .inr ⟨by simp[Region.wanted,vU hs hj hb],rfl⟩) h
theorem aZa {fuel:Nat} {ab:Array Bool} (hr:Region.ready .any ops ab=[]) (h:K L R):WD P n B w0 ops K fuel ab L R:=by
 intro a w Q hs hp pk hq;cases fuel with
 |zero=>exact⟨hr,hq _ _ L R hs hp h⟩
 |succ fuel=>exact⟨λ_=>hq _ _ L R hs hp h,by rw[hr];simp⟩
theorem XV {i:Nat} {o:Oper} {Post:Value->List Row->Prop} {fuel:Nat} {ab:Array Bool} (hi:ops[i]? =some o) (hr:Region.ready .any ops ab=[i]) (hg: ∀a,Sat n L a->Region.wanted o (yielded ops a.tmps)=true) (ha:Ac P n B w0 o.op o.type L R Post)
  (hn: ∀v a,Sat n L a->Sat n (match o.dst with|some d=>(d,v)::L|none=>L) (a.put o.dst v))
  (h: ∀v R',Post v R'->(XD ops ab i=true\/ ∀w,Hp B w0 w R'->Hp B w0 w R)/\WD P n B w0 ops K fuel (ab.setIfInBounds i true) (match o.dst with|some d=>(d,v)::L|none=>L) R'):WD P n B w0 ops K (fuel+1) ab L R:=by
 intro a w Q hs hp pk hq;refine⟨λh0=>absurd (hr▸h0) cD,λj hj=> ?_⟩;rw[hr] at hj;obtain rfl:=jc.1 hj;unfold wpOp;simp only[hi,hg a hs,Ii];refine .inl (ha a w o _ Q rfl rfl hs hp λv w' R' bw hv=> ?_);obtain⟨h1,h2⟩:=h v R' hv;exact⟨λw=>Hp B w0 w R',bw,h1,h2 _ w' Q (hn v a hs) bw pk hq⟩
theorem bGa {d:Nat} {Post:Value->List Row->Prop} {fuel:Nat} {ab:Array Bool} (i:Nat) (hi:ops[i]? =some {dst:=some d,op:=op,type:=ty,pos:=pos,after:=ml,guard:=none}) (hr:Region.ready .any ops ab=[i]) (hn:Nat.blt d n=true) (ha:Ac P n B w0 op ty L R Post)
  (h: ∀v R',Post v R'->(XD ops ab i=true\/ ∀w,Hp B w0 w R'->Hp B w0 w R)/\WD P n B w0 ops K fuel (ab.setIfInBounds i true) ((d,v)::L) R'):WD P n B w0 ops K (fuel+1) ab L R:=
 XV hi hr (λ_ _=>rfl) ha (λv _ hs=>hs.put hn v) h
theorem aCl {d j e:Nat} {want:Bool} {Post:Value->List Row->Prop} {fuel:Nat} {ab:Array Bool} (i:Nat) (hi:ops[i]? =some {dst:=some d,op:=op,type:=ty,pos:=pos,after:=ml,guard:=some (j,want)}) (hr:Region.ready .any ops ab=[i]) (hn:Nat.blt d n=true)
  (hj:(ops[j]?).bind (·.dst)=some e) (hb:lk L e=some (.bool want)) (ha:Ac P n B w0 op ty L R Post)
  (h: ∀v R',Post v R'->(XD ops ab i=true\/ ∀w,Hp B w0 w R'->Hp B w0 w R)/\WD P n B w0 ops K fuel (ab.setIfInBounds i true) ((d,v)::L) R'):WD P n B w0 ops K (fuel+1) ab L R:=
 XV hi hr (λa hs=>by simp[Region.wanted,oL hs hj hb]) ha (λv _ hs=>hs.put hn v) h
theorem pQ {Post:Value->List Row->Prop} {fuel:Nat} {ab:Array Bool} (i:Nat) (hi:ops[i]? =some {dst:=none,op:=op,type:=ty,pos:=pos,after:=ml,guard:=none}) (hr:Region.ready .any ops ab=[i]) (ha:Ac P n B w0 op ty L R Post)
  (h: ∀v R',Post v R'->(XD ops ab i=true\/ ∀w,Hp B w0 w R'->Hp B w0 w R)/\WD P n B w0 ops K fuel (ab.setIfInBounds i true) L R'):WD P n B w0 ops K (fuel+1) ab L R:=
 XV hi hr (λ_ _=>rfl) ha (λ_ _ hs=>hs) h
theorem mZ {fuel:Nat} {ab:Array Bool} (d:Nat) {p:Prop} [Decidable p] (hb:lk L d=some (.bool (decide p))) (ht:p->WD P n B w0 ops K fuel ab ((d, .bool true)::L) R) (hf: ¬p->WD P n B w0 ops K fuel ab ((d, .bool false)::L) R):WD P n B w0 ops K fuel ab L R:=by
 intro a w Q hs hp hq;by_cases h:p
 ·exact ht h a w Q (hs.sub (oG (by rw[hb,lh h]))) hp hq
 ·exact hf h a w Q (hs.sub (oG (by rw[hb,ol h]))) hp hq
theorem CK {fuel:Nat} {ab:Array Bool} {d:Nat} {u v:Value} (hu:u=v) (h:WD P n B w0 ops K fuel ab ((d,v)::L) R):WD P n B w0 ops K fuel ab ((d,u)::L) R:=by
 subst hu;exact h
theorem xQ {fuel:Nat} {ab:Array Bool} {R1:List Row} (hR:R=R1) (h:WD P n B w0 ops K fuel ab L R1):WD P n B w0 ops K fuel ab L R:=by
 subst hR;exact h
end
end Go.Eng
namespace Go.Eng
open Go Go.RowKit
section
variable {P:Program} {n:Nd} {B:Nat} {w0:World}
theorem pX {σ0:Type} {c:Code} {Q:eH} {L:Env} {R:List Row} (Lx:σ0->Env) (Rx:σ0->List Row) (J:σ0->Prop) (μ:σ0->Nat)
  (h0: ∃x0,J x0/\Sub (Lx x0) L/\ ∀w,Hp B w0 w R->Hp B w0 w (Rx x0))
  (round: ∀x0,J x0->W P n B w0 c {Q with nrm:=λL' R'=> ∃y0,J y0/\μ y0<μ x0/\Sub (Lx y0) L'/\ ∀w,Hp B w0 w R'->Hp B w0 w (Rx y0)} (Lx x0) (Rx x0)):W P n B w0 (.loop c) Q L R:=by
 obtain⟨x0,h1,h2,h3⟩:=h0;refine oN (σ:=σ0) (λp=>Lx p) (λp=>Rx p) (λp=>J p) (λp=>μ p) ⟨x0,h1,h2,h3⟩ λp hp=>gL (round p hp) ?_ (λ_ _ h=>h) (λ_ _ _ h=>h);rintro L' R' ⟨y0,g1,g2,g3,g4⟩;exact⟨y0,⟨g1,g2⟩,g3,g4⟩
theorem dS {σ0 σ1:Type} {c:Code} {Q:eH} {L:Env} {R:List Row} (Lx:σ0->σ1->Env) (Rx:σ0->σ1->List Row) (J:σ0->σ1->Prop) (μ:σ0->σ1->Nat)
  (h0: ∃x0 x1,J x0 x1/\Sub (Lx x0 x1) L/\ ∀w,Hp B w0 w R->Hp B w0 w (Rx x0 x1))
  (round: ∀x0 x1,J x0 x1->W P n B w0 c {Q with nrm:=λL' R'=> ∃y0 y1,J y0 y1/\μ y0 y1<μ x0 x1/\Sub (Lx y0 y1) L'/\ ∀w,Hp B w0 w R'->Hp B w0 w (Rx y0 y1)} (Lx x0 x1) (Rx x0 x1)):W P n B w0 (.loop c) Q L R:=by
 obtain⟨x0,x1,h1,h2,h3⟩:=h0;refine oN (σ:=σ0 × σ1) (λp=>Lx p.1 p.2) (λp=>Rx p.1 p.2) (λp=>J p.1 p.2) (λp=>μ p.1 p.2) ⟨(x0,x1),h1,h2,h3⟩ λp hp=>gL (round p.1 p.2 hp) ?_ (λ_ _ h=>h) (λ_ _ _ h=>h);rintro L' R' ⟨y0,y1,g1,g2,g3,g4⟩;exact⟨(y0,y1),⟨g1,g2⟩,g3,g4⟩
theorem fU {σ0 σ1 σ2:Type} {c:Code} {Q:eH} {L:Env} {R:List Row} (Lx:σ0->σ1->σ2->Env) (Rx:σ0->σ1->σ2->List Row) (J:σ0->σ1->σ2->Prop) (μ:σ0->σ1->σ2->Nat)
  (h0: ∃x0 x1 x2,J x0 x1 x2/\Sub (Lx x0 x1 x2) L/\ ∀w,Hp B w0 w R->Hp B w0 w (Rx x0 x1 x2))
  (round: ∀x0 x1 x2,J x0 x1 x2->W P n B w0 c {Q with nrm:=λL' R'=> ∃y0 y1 y2,J y0 y1 y2/\μ y0 y1 y2<μ x0 x1 x2/\Sub (Lx y0 y1 y2) L'/\ ∀w,Hp B w0 w R'->Hp B w0 w (Rx y0 y1 y2)} (Lx x0 x1 x2) (Rx x0 x1 x2)):W P n B w0 (.loop c) Q L R:=by
 obtain⟨x0,x1,x2,h1,h2,h3⟩:=h0;refine oN (σ:=σ0 × σ1 × σ2) (λp=>Lx p.1 p.2.1 p.2.2) (λp=>Rx p.1 p.2.1 p.2.2) (λp=>J p.1 p.2.1 p.2.2) (λp=>μ p.1 p.2.1 p.2.2) ⟨(x0,x1,x2),h1,h2,h3⟩ λp hp=>gL (round p.1 p.2.1 p.2.2 hp) ?_ (λ_ _ h=>h) (λ_ _ _ h=>h);rintro L' R' ⟨y0,y1,y2,g1,g2,g3,g4⟩;exact⟨(y0,y1,y2),⟨g1,g2⟩,g3,g4⟩
theorem EB {σ0 σ1 σ2 σ3:Type} {c:Code} {Q:eH} {L:Env} {R:List Row} (Lx:σ0->σ1->σ2->σ3->Env) (Rx:σ0->σ1->σ2->σ3->List Row) (J:σ0->σ1->σ2->σ3->Prop) (μ:σ0->σ1->σ2->σ3->Nat)
  (h0: ∃x0 x1 x2 x3,J x0 x1 x2 x3/\Sub (Lx x0 x1 x2 x3) L/\ ∀w,Hp B w0 w R->Hp B w0 w (Rx x0 x1 x2 x3))
  (round: ∀x0 x1 x2 x3,J x0 x1 x2 x3->W P n B w0 c {Q with nrm:=λL' R'=> ∃y0 y1 y2 y3,J y0 y1 y2 y3/\μ y0 y1 y2 y3<μ x0 x1 x2 x3/\Sub (Lx y0 y1 y2 y3) L'/\ ∀w,Hp B w0 w R'->Hp B w0 w (Rx y0 y1 y2 y3)} (Lx x0 x1 x2 x3) (Rx x0 x1 x2 x3)):W P n B w0 (.loop c) Q L R:=by
 obtain⟨x0,x1,x2,x3,h1,h2,h3⟩:=h0;refine oN (σ:=σ0 × σ1 × σ2 × σ3) (λp=>Lx p.1 p.2.1 p.2.2.1 p.2.2.2) (λp=>Rx p.1 p.2.1 p.2.2.1 p.2.2.2) (λp=>J p.1 p.2.1 p.2.2.1 p.2.2.2) (λp=>μ p.1 p.2.1 p.2.2.1 p.2.2.2) ⟨(x0,x1,x2,x3),h1,h2,h3⟩ λp hp=>gL (round p.1 p.2.1 p.2.2.1 p.2.2.2 hp) ?_ (λ_ _ h=>h) (λ_ _ _ h=>h);rintro L' R' ⟨y0,y1,y2,y3,g1,g2,g3,g4⟩;exact⟨(y0,y1,y2,y3),⟨g1,g2⟩,g3,g4⟩
theorem jN {σ0 σ1 σ2 σ3 σ4:Type} {c:Code} {Q:eH} {L:Env} {R:List Row} (Lx:σ0->σ1->σ2->σ3->σ4->Env) (Rx:σ0->σ1->σ2->σ3->σ4->List Row) (J:σ0->σ1->σ2->σ3->σ4->Prop) (μ:σ0->σ1->σ2->σ3->σ4->Nat)
  (h0: ∃x0 x1 x2 x3 x4,J x0 x1 x2 x3 x4/\Sub (Lx x0 x1 x2 x3 x4) L/\ ∀w,Hp B w0 w R->Hp B w0 w (Rx x0 x1 x2 x3 x4))
  (round: ∀x0 x1 x2 x3 x4,J x0 x1 x2 x3 x4->W P n B w0 c {Q with nrm:=λL' R'=> ∃y0 y1 y2 y3 y4,J y0 y1 y2 y3 y4/\μ y0 y1 y2 y3 y4<μ x0 x1 x2 x3 x4/\Sub (Lx y0 y1 y2 y3 y4) L'/\ ∀w,Hp B w0 w R'->Hp B w0 w (Rx y0 y1 y2 y3 y4)} (Lx x0 x1 x2 x3 x4) (Rx x0 x1 x2 x3 x4)):W P n B w0 (.loop c) Q L R:=by
 obtain⟨x0,x1,x2,x3,x4,h1,h2,h3⟩:=h0;refine oN (σ:=σ0 × σ1 × σ2 × σ3 × σ4) (λp=>Lx p.1 p.2.1 p.2.2.1 p.2.2.2.1 p.2.2.2.2) (λp=>Rx p.1 p.2.1 p.2.2.1 p.2.2.2.1 p.2.2.2.2) (λp=>J p.1 p.2.1 p.2.2.1 p.2.2.2.1 p.2.2.2.2) (λp=>μ p.1 p.2.1 p.2.2.1 p.2.2.2.1 p.2.2.2.2) ⟨(x0,x1,x2,x3,x4),h1,h2,h3⟩ λp hp=>gL (round p.1 p.2.1 p.2.2.1 p.2.2.2.1 p.2.2.2.2 hp) ?_ (λ_ _ h=>h) (λ_ _ _ h=>h);rintro L' R' ⟨y0,y1,y2,y3,y4,g1,g2,g3,g4⟩;exact⟨(y0,y1,y2,y3,y4),⟨g1,g2⟩,g3,g4⟩
theorem nU {σ0 σ1 σ2 σ3 σ4 σ5:Type} {c:Code} {Q:eH} {L:Env} {R:List Row} (Lx:σ0->σ1->σ2->σ3->σ4->σ5->Env) (Rx:σ0->σ1->σ2->σ3->σ4->σ5->List Row) (J:σ0->σ1->σ2->σ3->σ4->σ5->Prop) (μ:σ0->σ1->σ2->σ3->σ4->σ5->Nat)
  (h0: ∃x0 x1 x2 x3 x4 x5,J x0 x1 x2 x3 x4 x5/\Sub (Lx x0 x1 x2 x3 x4 x5) L/\ ∀w,Hp B w0 w R->Hp B w0 w (Rx x0 x1 x2 x3 x4 x5))
  (round: ∀x0 x1 x2 x3 x4 x5,J x0 x1 x2 x3 x4 x5->W P n B w0 c {Q with nrm:=λL' R'=> ∃y0 y1 y2 y3 y4 y5,J y0 y1 y2 y3 y4 y5/\μ y0 y1 y2 y3 y4 y5<μ x0 x1 x2 x3 x4 x5/\Sub (Lx y0 y1 y2 y3 y4 y5) L'/\ ∀w,Hp B w0 w R'->Hp B w0 w (Rx y0 y1 y2 y3 y4 y5)} (Lx x0 x1 x2 x3 x4 x5) (Rx x0 x1 x2 x3 x4 x5)):W P n B w0 (.loop c) Q L R:=by
 obtain⟨x0,x1,x2,x3,x4,x5,h1,h2,h3⟩:=h0;refine oN (σ:=σ0 × σ1 × σ2 × σ3 × σ4 × σ5) (λp=>Lx p.1 p.2.1 p.2.2.1 p.2.2.2.1 p.2.2.2.2.1 p.2.2.2.2.2) (λp=>Rx p.1 p.2.1 p.2.2.1 p.2.2.2.1 p.2.2.2.2.1 p.2.2.2.2.2) (λp=>J p.1 p.2.1 p.2.2.1 p.2.2.2.1 p.2.2.2.2.1 p.2.2.2.2.2) (λp=>μ p.1 p.2.1 p.2.2.1 p.2.2.2.1 p.2.2.2.2.1 p.2.2.2.2.2) ⟨(x0,x1,x2,x3,x4,x5),h1,h2,h3⟩ λp hp=>gL (round p.1 p.2.1 p.2.2.1 p.2.2.2.1 p.2.2.2.2.1 p.2.2.2.2.2 hp) ?_ (λ_ _ h=>h) (λ_ _ _ h=>h);rintro L' R' ⟨y0,y1,y2,y3,y4,y5,g1,g2,g3,g4⟩;exact⟨(y0,y1,y2,y3,y4,y5),⟨g1,g2⟩,g3,g4⟩
theorem EA {σ0 σ1 σ2 σ3 σ4 σ5 σ6:Type} {c:Code} {Q:eH} {L:Env} {R:List Row} (Lx:σ0->σ1->σ2->σ3->σ4->σ5->σ6->Env) (Rx:σ0->σ1->σ2->σ3->σ4->σ5->σ6->List Row) (J:σ0->σ1->σ2->σ3->σ4->σ5->σ6->Prop) (μ:σ0->σ1->σ2->σ3->σ4->σ5->σ6->Nat)
  (h0: ∃x0 x1 x2 x3 x4 x5 x6,J x0 x1 x2 x3 x4 x5 x6/\Sub (Lx x0 x1 x2 x3 x4 x5 x6) L/\ ∀w,Hp B w0 w R->Hp B w0 w (Rx x0 x1 x2 x3 x4 x5 x6))
  (round: ∀x0 x1 x2 x3 x4 x5 x6,J x0 x1 x2 x3 x4 x5 x6->W P n B w0 c {Q with nrm:=λL' R'=> ∃y0 y1 y2 y3 y4 y5 y6,J y0 y1 y2 y3 y4 y5 y6/\μ y0 y1 y2 y3 y4 y5 y6<μ x0 x1 x2 x3 x4 x5 x6/\Sub (Lx y0 y1 y2 y3 y4 y5 y6) L'/\ ∀w,Hp B w0 w R'->Hp B w0 w (Rx y0 y1 y2 y3 y4 y5 y6)} (Lx x0 x1 x2 x3 x4 x5 x6) (Rx x0 x1 x2 x3 x4 x5 x6)):W P n B w0 (.loop c) Q L R:=by
 obtain⟨x0,x1,x2,x3,x4,x5,x6,h1,h2,h3⟩:=h0;refine oN (σ:=σ0 × σ1 × σ2 × σ3 × σ4 × σ5 × σ6) (λp=>Lx p.1 p.2.1 p.2.2.1 p.2.2.2.1 p.2.2.2.2.1 p.2.2.2.2.2.1 p.2.2.2.2.2.2) (λp=>Rx p.1 p.2.1 p.2.2.1 p.2.2.2.1 p.2.2.2.2.1 p.2.2.2.2.2.1 p.2.2.2.2.2.2) (λp=>J p.1 p.2.1 p.2.2.1 p.2.2.2.1 p.2.2.2.2.1 p.2.2.2.2.2.1 p.2.2.2.2.2.2) (λp=>μ p.1 p.2.1 p.2.2.1 p.2.2.2.1 p.2.2.2.2.1 p.2.2.2.2.2.1 p.2.2.2.2.2.2) ⟨(x0,x1,x2,x3,x4,x5,x6),h1,h2,h3⟩ λp hp=>gL (round p.1 p.2.1 p.2.2.1 p.2.2.2.1 p.2.2.2.2.1 p.2.2.2.2.2.1 p.2.2.2.2.2.2 hp) ?_ (λ_ _ h=>h) (λ_ _ _ h=>h);rintro L' R' ⟨y0,y1,y2,y3,y4,y5,y6,g1,g2,g3,g4⟩;exact⟨(y0,y1,y2,y3,y4,y5,y6),⟨g1,g2⟩,g3,g4⟩
theorem vC {x y:Code} {Q:eH} {L:Env} {R:List Row} (L1:Env) (R1:List Row)
  (hx:W P n B w0 x {Q with nrm:=λL' R'=>Sub L1 L'/\ ∀w,Hp B w0 w R'->Hp B w0 w R1} L R) (hy:W P n B w0 y Q L1 R1):W P n B w0 (.seq x y) Q L R:=
 aG (gL hx (λ_ _ ⟨hL,hR⟩=>aCm hL hR hy) (λ_ _ h=>h) (λ_ _ _ h=>h))
theorem bR {Q:eH} {L:Env} {R R1:List Row} (hR: ∀w,Hp B w0 w R->Hp B w0 w R1) (h:Q.ret L R1):W P n B w0 .ret Q L R:=aCm (Sub.refl L) hR (dF h)
def pickT (is:List Nat) (m:Nat) (R:List Row):List Row:=is.filterMap (λi=>R[i]?)++R.drop m
theorem Hp.pickT {B:Nat} {w0 w:World} {R:List Row} (h:Hp B w0 w R) (is:List Nat) (m:Nat) (hn:is.Nodup) (hR:is.map (λi=>(R.take m)[i]?)=(is.filterMap (λi=>R[i]?)).map some):Hp B w0 w (pickT is m R):=by
 rw[<-gq m R] at h;have hp:=pq.1 h.apart;have hF:Hp B w0 w (R.take m):=⟨h.below,h.base,λr hr=>h.own r (fw.2 (.inl hr)),hp.1,h.late⟩;have Qx:=hF.sel is hn hR
 have mem: ∀q∈is.filterMap (λi=>R[i]?),q∈R.take m:=by
  intro q hq;have h1:some q∈(is.filterMap (λi=>R[i]?)).map some:=il.2 ⟨q,hq,rfl⟩;rw[<-hR] at h1;obtain⟨i,_,hi⟩:=il.1 h1;exact ek hi
 refine⟨h.below,h.base,λr hr=> ?_,pq.2 ⟨Qx.apart,hp.2.1,λa ha b hb=>hp.2.2 a (mem a ha) b hb⟩,h.late⟩;rcases fw.1 hr with hr|hr
 ·exact Qx.own r hr
 ·exact h.own r (fw.2 (.inr hr))
theorem Ct.pick {P:Program} {B:Nat} {w0:World} {f:FuncId} {args:Array Value} {R:List Row} {Post:Value->List Row->Prop} (is:List Nat) (m:Nat) (hn:is.Nodup) (hR:is.map (λi=>(R.take m)[i]?)=(is.filterMap (λi=>R[i]?)).map some) (h:Ct P f args B w0 (pickT is m R) Post):Ct P f args B w0 R Post:=
 Ct.sub (λ_ hw=>hw.pickT is m hn hR) h
theorem aT {P:Program} {n:Nd} {B:Nat} {w0:World} {Q:eH} {L:Env} {R:List Row} (is:List Nat) (m:Nat) (hn:is.Nodup) (hR:is.map (λi=>(R.take m)[i]?)=(is.filterMap (λi=>R[i]?)).map some) (h:Q.ret L (pickT is m R)):W P n B w0 .ret Q L R:=
 bR (λ_ hw=>hw.pickT is m hn hR) h
theorem Ct.quiet {f:FuncId} {args:Array Value} {R:List Row} {Q:Value->Prop} (h: ∀w,Hp B w0 w R->Ct P f args w.heap.size w [] (λv _=>Q v)):Ct P f args B w0 R (λv R'=>R'=R/\Q v):=
 λw hw=>(h w hw w (Hp.refl w)).mono λ_ _ ⟨v,_,he,hh,hv⟩=>⟨v,R,he,(hw.join hh).right,rfl,hv⟩
theorem Sub.to {L1 L:Env} {t:Nat} {v u:Value} (h:lk L t=some v) (e:v=u) (hs:Sub L1 L):Sub ((t,u)::L1) L:=e▸Sub.cons h hs
variable {L:Env} {R:List Row} {ty:TypeId}
def aO (l:List Int):Prop:= ∀x∈l,0<=x/\x<256
theorem aO.rd {l:List Int} (h:aO l) (i:Int):0<=rd l i/\rd l i<256:=by
 unfold Eng.rd;rcases fe i.toNat l.length with h1|h1
 ·rw [af,av h1];exact h _ (kz h1)
 ·rw [af,ll h1];simp
theorem aO.take {l:List Int} (h:aO l) (k:Nat):aO (l.take k):=λx hx=>h x (lu hx)
theorem aO.drop {l:List Int} (h:aO l) (k:Nat):aO (l.drop k):=λx hx=>h x (pg hx)
theorem aO.append {l m:List Int} (h:aO l) (h':aO m):aO (l++m):=λx hx=>(fw.1 hx).elim (h x) (h' x)
theorem aO.nil:aO []:=λ_ h=>by cases h
theorem xY {l m:List Int} (hl:aO l) (hm:aO m):((strOfNums l).toList==(strOfNums m).toList)=decide (l=m):=by
 have key: ∀l:List Int,aO l->((strOfNums l).toList.map λb=>(b.toNat:Int))=l:=by
  intro l hl
  have e:(strOfNums l).toList=l.map λx=>UInt8.ofNat x.toNat:=by
   rw[ByteArray.toList_eq];rfl
  rw[e,xz]
  conv=>rhs;rw[<-List.map_id l]
  refine Bi λx hx=> ?_;obtain⟨h0,h1⟩:=hl x hx;simp only[Function.comp,id];rw[Bn (by simp[UInt8.size];omega)];omega
 by_cases h:l=m
 ·subst h;simp
 ·have:(strOfNums l).toList≠(strOfNums m).toList:=λe=>h (by rw[<-key l hl,<-key m hm,e]);simp[h,this]
theorem xL {x:Operand} {s e d:TypeId} {A:Option Addr} {m c:Nat} {l:List Int} (dg:P.underlying s=some (.slice e)) (he:P.underlying e=some (.int .u8)) (hd:P.underlying d=some .string) (hx:ev L x=some (.slice A m c)) (hr:RdC B w0 R A m c 1 (ints .u8 l)):
  Yl P n B w0 (.convert s d x) ty L R (.string (strOfNums l)):=by
 intro a w o ho _ hs hp;have ie:=hr w hp;have hl:=ie.len;rw[bV,qy] at hl
 have hc:(convert s d (.slice A m c)).run P w= .ok (.string (strOfNums l)) w:=by
  rcases A with _|ad
  ·have h0:l=[]:=by
    cases l with
    |nil=>rfl
    |cons y l'=>obtain⟨_,h,_⟩:=ie.at_ 0 (.int .u8 y) (by simp[ints]);cases h
   subst h0;exact run_convert_bytes_nil w s e dg he m c d hd
  ·have hlc:(loadCells ad m).run P w= .ok (l.map (Value.int .u8)).toArray w:=by
    have:=run_loadCells_list (P:=P) w ad (l.map (Value.int .u8)) (λj v hj=>by
     obtain⟨a',ki,hcell⟩:=ie.at_ j v hj;obtain rfl:=iw ki
     exact hcell)
    simpa [hl] using this
   rw[run_convert_bytes_string w s d e _ m c dg he hd,run_bytesToString w _ m c l hlc,foldl_push_bytes];simp[strOfNums,ByteArray.empty,ByteArray.emptyWithCapacity];rfl
 simp[execOp,ho,hs.ev hx,hc]
theorem bCk {x y:Operand} {t u:TypeId} {p q:ByteArray} (hx:ev L x=some (.string p)) (hy:ev L y=some (.string q)):Yl P n B w0 (.binOp .eql t x y u) ty L R (.bool (p.toList==q.toList)):=by
 intro a w o ho _ hs _;simp[execOp,ho,binOp,eqGuard,hs.ev hx,hs.ev hy,Op.stringOp]
theorem aXd {x y:Operand} {t u:TypeId} {p q:List Int} (hx:ev L x=some (.string (strOfNums p))) (hy:ev L y=some (.string (strOfNums q))) (hp:aO p) (hq:aO q):Yl P n B w0 (.binOp .eql t x y u) ty L R (.bool (decide (p=q))):=by
 have:=bCk (P:=P) (n:=n) (B:=B) (w0:=w0) (R:=R) (ty:=ty) (t:=t) (u:=u) hx hy;rwa[xY hp hq] at this
theorem bCg {x y:Operand} {t u:TypeId} {p q:List Int} (hx:ev L x=some (.string (strOfNums p))) (hy:ev L y=some (.string (strOfNums q))) (hp:aO p) (hq:aO q):Yl P n B w0 (.binOp .neq t x y u) ty L R (.bool (decide (p≠q))):=by
 intro a w o ho _ hs _;have h:=xY hp hq;have h2:(!decide (p=q))=decide (p≠q):=cD
 simp only[execOp,ho,binOp,eqGuard,hs.ev hx,hs.ev hy,Op.stringOp,h,h2];simp
theorem bBl {x:Operand} {t e:TypeId} {r:Row} {g:Nat} (i:Nat) (hi:R[i]? =some r) (li:r.ro=false) (ht:P.underlying t=some (.slice e)) (he:P.underlying e=some (.int .u8)) (hA:r.A=some ⟨g,0,none⟩) (hx:ev L x=some (.slice r.A r.n r.c)):
  Ac P n B w0 (.convert t t x) ty L R (λv R'=>v= .slice r.A r.n r.c/\R'=R.set i {r with ro:=true}):=by
 intro a w o K Q ho _ hs hp hk;have hw:=Row.lies_w (hp.own r (ek hi)) li;rcases hw.2 with⟨hn,_⟩|⟨g',cap,cur,dg,hb,hg,hnc,pj,hcs,g6⟩
 ·rw[hA] at hn;cases hn
 ·rw [hA] at dg;simp only[jq,lm,Ab,Aa,zm] at dg;obtain⟨rfl,rfl⟩:=dg
  have hg':(w.freeze ⟨g,cur.size,none⟩ 1).heap[g]? =some (.cells cur r.e (cur.size,cur.size+1)):=by
   have aw:g<w.heap.size:=(dz.1 hg).1;have hv:w.heap[g]= .cells cur r.e (0,0):=(dz.1 hg).2;simp[World.freeze,aw,Array.getElem_modify,hv]
  have Uw: ∀k,k≠g->(w.freeze ⟨g,cur.size,none⟩ 1).heap[k]? =w.heap[k]? :=by
   intro k hk;simp[World.freeze,uo,Fz hk]
  have hr:(convert t t (.slice r.A r.n r.c)).run P w= .ok (.slice r.A r.n r.c) (w.freeze ⟨g,cur.size,none⟩ 1):=by
   rw[hA];simp only[convert,jm,lq ht,jk,lq he,beq_self_eq_true];simp[markStringish,shape,Sem.run,World.shape?,hg,freeze]
  unfold Oper.wp;simp only[execOp,ho,hs.ev hx,jm,hr,jk,lv,Oper.upon];refine hk _ _ _ ?_ ⟨rfl,rfl⟩;refine hp.upd hi (row:=some g) ⟨by simp[World.freeze],by simp[World.freeze],by simp[World.freeze],by simp[World.freeze],λk _ da=>Uw k (λe=>da (by rw[e]))⟩ (by simp[World.freeze]) (λk hk=>⟨_,hA,by simpa using hk⟩) ?_ (λa' ki=> .inl ⟨a',ki,rfl⟩);unfold Row.lies;exact⟨g,cur,_,hA,hb,hg',sw hnc pj,hnc,hw.1,g6⟩
end
end Go.Eng
namespace Go.Eng
open Go Go.RowKit
def upd (l:List Int) (i v:Int):List Int:=l.set i.toNat v
theorem qB (k:IntKind) (l m:List Int):ints k (l++m)=ints k l++ints k m:=by simp[ints]
theorem aPe (k:IntKind) (l:List Int) (i v:Int):(ints k l).set i.toNat (.int k v)=ints k (upd l i v):=by simp[ints,upd,List.map_set]
theorem aV (l:List Int) (i v:Int):(upd l i v).length=l.length:=by simp[upd]
theorem fI {l:List Int} {i j v:Int} (hi:0<=i) (hj:0<=j) (h:i<l.length):rd (upd l i v) j=if j=i then v else rd l j:=by
 unfold rd upd;rw[af,af,vw];by_cases e:j=i
 ·subst e;have:j.toNat<l.length:=G
  simp[this]
 ·have: ¬i.toNat=j.toNat:=G
  simp[e,this]
theorem GI {l m:List Int} {i:Int} (h0:0<=i) (h:i<l.length):rd (l++m) i=rd l i:=by
 unfold rd;rw[af,af,je G]
theorem KP {l:List Int} {x i:Int} (h:i=l.length):rd (l++[x]) i=x:=by
 subst h;simp[rd]
theorem zD (k:IntKind) (l:List Int): ∀u∈ints k l,u.oneCell'=true:=by
 intro u hu;obtain⟨x,_,rfl⟩:=il.1 hu;rfl
section
variable {P:Program} {n:Nd} {B:Nat} {w0:World} {L:Env} {R:List Row} {ty:TypeId}
theorem aNa (k:IntKind):RdC B w0 R none 0 0 1 (ints k []):=λ_ _=>⟨rfl,G,G,λj v hv=>by simp[ints] at hv⟩
theorem EK (sz:Nat):RdC B w0 R none 0 0 sz []:=λ_ _=>⟨cD,G,G,λj v hv=>by simp at hv⟩
theorem bG {x y:Operand} {t e:TypeId} {j v:Int} {A:Option Addr} {m c:Nat} {k:IntKind} {l:List Int} (i:Nat) (hi:R[i]? =some ⟨e,1,A,m,c,ints k l,false⟩) (ee:(P.info? t).map (·.size)=some 1) (hx:ev L x=some (.pointer (pat A j.toNat))) (hy:ev L y=some (.int k v)) (h0:0<=j:=by omega) (h1:j<m:=by omega):
  Ac P n B w0 (.store t x y) ty L R (λ_ R'=>R'=R.set i ⟨e,1,A,m,c,ints k (upd l j v),false⟩):=by
 intro a w o K Q ho xo hs hp hk;have du:=Row.lies_w (hp.own _ (ek hi)) rfl;have ie:=Row.rd (hp.own _ (ek hi));have hl:=ie.len
 obtain⟨g,hA⟩: ∃g,A=some ⟨g,0,none⟩:=by
  rcases du.2 with⟨_,hn⟩|⟨g,cap,cur,hv,_⟩
  ·simp only at hn;omega
  ·simp only[jq] at hv;exact⟨g,hv.1⟩
 have:=QQ (P:=P) (n:=n) (B:=B) (w0:=w0) (ty:=ty) i hi rfl hA ee hx rfl hy rfl rfl (by rw[hl];simp only;omega);simp only[aPe] at this;exact this a w o K Q ho xo hs hp hk
theorem bE {s x:Operand} {t e:TypeId} {bytes m p c c2:Nat} {A A2:Option Addr} {k:IntKind} {l news:List Int} (i:Nat) (hi:R[i]? =some ⟨e,1,A,p,c,ints k l,false⟩) (ht:P.underlying t=some (.slice e)) (co:(P.info? e).map (λi=>(i.zero,i.size,i.bytes))=some (some (.int k 0),1,bytes)) (a7:Nat.blt 0 bytes=true)
  (hs:ev L s=some (.slice A p c)) (hx:ev L x=some (.slice A2 m c2)) (ie:RdC B w0 R A2 m c2 1 (ints k news)) (gs:(p+m)*bytes<=140737488355328:=by omega):
  Ac P n B w0 (.call {callee:= .builtin .append,args:= #[s,x],argTypes:= #[t,t]}) ty L R (λv R'=> ∃A' c',v= .slice A' (p+m) c'/\R'=R.set i ⟨e,1,A',p+m,c',ints k (l++news),false⟩):=by
 have:=rJ (P:=P) (n:=n) (B:=B) (w0:=w0) (ty:=ty) i hi rfl ht co rfl rfl a7 hs hx ie (zD k news) gs;simp only[<-qB] at this;exact this
theorem aMt (k:IntKind) (m:Nat) (x:Int):List.replicate m (Value.int k x)=ints k (List.replicate m x):=by simp[ints]
theorem dE {x y:Operand} {t e:TypeId} {k:IntKind} {bytes:Nat} {m:Int} (ht:P.underlying t=some (.slice e)) (co:(P.info? e).map (λi=>(i.zero,i.size,i.bytes))=some (some (.int k 0),1,bytes))
  (hx:ev L x=some (.int .i64 m)) (hy:ev L y=some (.int .i64 m)) (h0:0<=m:=by omega) (hm:m*bytes<=281474976710656:=by omega) (u4:m<=9223372036854775807:=by omega):
  Ac P n B w0 (.makeSlice t x y) ty L R (λv R'=> ∃g,v= .slice (some ⟨g,0,none⟩) m.toNat m.toNat/\R'=⟨e,1,some ⟨g,0,none⟩,m.toNat,m.toNat,ints k (List.replicate m.toNat 0),false⟩::R):=by
 have:=aFk (P:=P) (n:=n) (B:=B) (w0:=w0) (L:=L) (R:=R) (ty:=ty) ht co rfl hx hy h0 hm u4;simpa only[aMt] using this
theorem Yl.t {op:Op} {p:Prop} [Decidable p] (hy:Yl P n B w0 op ty L R (.bool (decide p))) (h:p):Yl P n B w0 op ty L R (.bool true):=by rwa[lh h] at hy
theorem Yl.f {op:Op} {p:Prop} [Decidable p] (hy:Yl P n B w0 op ty L R (.bool (decide p))) (h: ¬p:=by omega):Yl P n B w0 op ty L R (.bool false):=by rwa[ol h] at hy
theorem Yl.is {op:Op} {v u:Value} (hy:Yl P n B w0 op ty L R v) (h:v=u):Yl P n B w0 op ty L R u:=h▸hy
theorem kK {ops:Array Oper} {l:List Oper} {K:Env->List Row->Prop} (d:Nat) {p:Prop} [Decidable p] (h:lk L d=some (.bool (decide p))) (hp:p) (hn:WR P n B w0 ops l K ((d, .bool true)::L) R):WR P n B w0 ops l K L R:=
 dH (oG (by rw[h,lh hp])) (λ_ h=>h) hn
theorem vB {ops:Array Oper} {l:List Oper} {K:Env->List Row->Prop} (d:Nat) {p:Prop} [Decidable p] (h:lk L d=some (.bool (decide p))) (hp: ¬p) (hn:WR P n B w0 ops l K ((d, .bool false)::L) R):WR P n B w0 ops l K L R:=
 dH (oG (by rw[h,ol hp])) (λ_ h=>h) hn
theorem kE {ops:Array Oper} {l2:List Oper} {Q:Exit->Act->World->Prop}: ∀(l1:List Oper) (a:Act) (w:World),wpList P ops (λe a w=>match e with| .normal=>wpList P ops Q l2 a w|e=>Q e a w) l1 a w->wpList P ops Q (l1++l2) a w
 |[],a,w,h=>h
 | o ::l1,a,w,h=>by
  simp only[jd];unfold wpList at h ⊢;split
  ·rename_i hw;rw[cu hw] at h;rcases h with h|⟨h1,h2⟩
   ·left;unfold Oper.wp at h ⊢;generalize (execOp a.eval o).run P w=r at*;cases r with
    | ok n w'=>
     cases n<;>simp only[Oper.upon] at h ⊢ <;>first
      |exact kE l1 _ _ h
      |exact Calls.mono h (λe Md he=>by cases e<;>first|exact kE l1 _ _ he|exact he)
      |exact Rows.mono h (λ_ _ he=>kE l1 _ _ he)
    |halt x w'=>cases x<;>simp only[Oper.upon] at h ⊢ <;>exact h
   ·exact .inr ⟨h1,h2⟩
  ·rename_i hw;rw[bu hw] at h;exact kE l1 _ _ h
theorem dQ {ops:Array Oper} {l:List Oper} {K:Env->List Row->Prop} (k:Nat) (L1:Env) (R1:List Row) (h1:WR P n B w0 ops (l.take k) (λL' R'=>Sub L1 L'/\ ∀w,Hp B w0 w R'->Hp B w0 w R1) L R) (h2:WR P n B w0 ops (l.drop k) K L1 R1):WR P n B w0 ops l K L R:=by
 intro a w Q hs hp hq;rw[<-gq k l];refine kE _ a w (h1 a w _ hs hp λa' w' L' R' dg bw ⟨hL,hR⟩=> ?_);exact h2 a' w' Q (dg.sub hL) (hR w' bw) hq
theorem bGd {p:Prop} [Decidable p] (h:p):Value.bool true=Value.bool (decide p):=by rw[lh h]
theorem bGe {p:Prop} [Decidable p] (h: ¬p):Value.bool false=Value.bool (decide p):=by rw[ol h]
theorem mb {p q:Prop} [Decidable p] [Decidable q] (h:p↔q):Value.bool (decide p)=Value.bool (decide q):=by rw[zl.2 h]
def enu:Nat->List Value->List (Nat × Value)
 |_,[]=>[]
 |k,v::vs=>(k,v)::enu (k+1) vs
theorem cells_one {v:Value} (h:v.oneCell'=true):v.cells= #[v]:=by cases v<;>first|rfl|(simp[Value.oneCell'] at h)
theorem VA: ∀(vs pre post:List Value),vs.all (·.oneCell')=true->vs.length=post.length->Instr.fill (λi=>some (i*1,1)) (pre++post).toArray (enu pre.length vs)=some (pre++vs).toArray
 |[],pre,post,_,hl=>by
  have:post=[]:=ed (by simpa using hl.symm);subst this;simp[enu,Instr.fill]
 | v::vs,pre,post,h1,hl=>by
  cases post with
  |nil=>simp at hl
  | cons q post=>
   simp only[Gq,qj] at h1;have hc:=cells_one h1.1;have ih:=VA vs (pre++[v]) post h1.2 (by simpa using hl);simp only[ah,ic] at ih;simp only[enu,Instr.fill,qy];rw[hc];have hn: ¬((#[v]:Array Value).size≠1\/pre.length+(#[v]:Array Value).size>(pre++q::post).toArray.size):=cD
   simp only[hn,zx,yz,wu]
   have e:((#[v]:Array Value).zipIdx.foldl (λcs x=>cs.setIfInBounds (pre.length+x.2) x.1) (pre++q::post).toArray)=(pre++[v]++post).toArray:=by
    simp
   simp only[qy,ig,jd,jb] at ih;simp only[e,ig,jd,jb];exact ih
theorem nN {t e:TypeId} {z:Value} {len:Nat} {ps:List (Nat × Operand)} (vals:List Value) (ht:P.underlying t=some (.slice e)) (co:(P.info? e).map (λi=>(i.zero,i.size))=some (some z,1)) (hv:evp L ps=some (enu 0 vals))
  (h1:vals.all (·.oneCell')=true) (hl:vals.length=len) (oa:Nat.ble len 16777216=true):
  Ac P n B w0 (.buildSlice t len ps.toArray) ty L R (λv R'=> ∃g,v= .slice (some ⟨g,0,none⟩) len len/\R'=⟨e,1,some ⟨g,0,none⟩,len,len,vals,false⟩::R):=by
 have hf:=VA vals [] (((Array.range (len*1)).map ((bif Nat.beq (len*1) 0 then #[] else z.cells)[· %(bif Nat.beq (len*1) 0 then #[] else z.cells).size]!)).toList) h1 (by simp[hl]);simp only[jy,jb,Array.toArray_toList] at hf;have:=nZ (P:=P) (n:=n) (B:=B) (w0:=w0) (L:=L) (R:=R) (ty:=ty) (len:=len) ht co hv (by rw[qy];exact oa) oa hf (by simp[hl]);simpa using this
theorem bS {t e:TypeId} {z:Value} {len:Nat} {ps:List (Nat × Operand)} (k:IntKind) (l:List Int) (ht:P.underlying t=some (.slice e)) (co:(P.info? e).map (λi=>(i.zero,i.size))=some (some z,1)) (hv:evp L ps=some (enu 0 (ints k l)))
  (hl:l.length=len) (oa:Nat.ble len 16777216=true):
  Ac P n B w0 (.buildSlice t len ps.toArray) ty L R (λv R'=> ∃g,v= .slice (some ⟨g,0,none⟩) len len/\R'=⟨e,1,some ⟨g,0,none⟩,len,len,ints k l,false⟩::R):=
 nN (ints k l) ht co hv (by rw[xc];exact zD k l) (by rw[bV,hl]) oa
theorem Rd.lenI {w:World} {A:Option Addr} {m c:Nat} {k:IntKind} {l:List Int} (h:Rd w A m c 1 (ints k l)):m=l.length:=by
 have:=h.len;rw[bV] at this;omega
end
end Go.Eng
namespace Go.Eng
open Go Go.RowKit
section
variable {P:Program} {n:Nd} {B:Nat} {w0:World} {ops:Array Oper} {l:List Oper} {K:Env->List Row->Prop} {L:Env} {R:List Row} {op:Op} {ty:TypeId} {pos:String} {ml:Array Edge} {d:Nat}
theorem wy {v:Value} (hy:Yl P n B w0 op ty L R v) (h:WR P n B w0 ops l K ((d,v)::L) R) (hn:Nat.blt d n=true:=by exact rfl):WR P n B w0 ops ({dst:=some d,op:=op,type:=ty,pos:=pos,after:=ml,guard:=none}::l) K L R:=XQ hn hy h
theorem wa {Post:Value->List Row->Prop} (ha:Ac P n B w0 op ty L R Post) (h: ∀v R',Post v R'->WR P n B w0 ops l K ((d,v)::L) R') (hn:Nat.blt d n=true:=by exact rfl):WR P n B w0 ops ({dst:=some d,op:=op,type:=ty,pos:=pos,after:=ml,guard:=none}::l) K L R:=bFy hn ha h
theorem wm {x:Operand} {v:Value} (hx:ev L x=some v) (h:WR P n B w0 ops l K ((d,v)::L) R) (hn:Nat.blt d n=true:=by exact rfl):WR P n B w0 ops ({dst:=some d,op:= .move x,type:=ty,pos:=pos,after:=ml,guard:=none}::l) K L R:=XQ hn (aN hx) h
theorem wg {x:Operand} {v:Value} (hx:ev L x=some v) (h:WR P n B w0 ops l K ((d,v)::L) R) (hn:Nat.blt d n=true:=by exact rfl):WR P n B w0 ops ({dst:=some d,op:= .assign x,type:=ty,pos:=pos,after:=ml,guard:=none}::l) K L R:=XQ hn (bP hx) h
theorem wA {x y:Operand} {t u:TypeId} {p q:Int} (hx:ev L x=some (.int .i64 p)) (hy:ev L y=some (.int .i64 q)) (h:WR P n B w0 ops l K ((d, .int .i64 (p+q))::L) R) (hn:Nat.blt d n=true:=by exact rfl) (hb: -9223372036854775808<=p+q/\p+q<=9223372036854775807:=by omega):WR P n B w0 ops ({dst:=some d,op:= .binOp .add t x y u,type:=ty,pos:=pos,after:=ml,guard:=none}::l) K L R:=XQ hn (dG hx hy hb) h
theorem wS {x y:Operand} {t u:TypeId} {p q:Int} (hx:ev L x=some (.int .i64 p)) (hy:ev L y=some (.int .i64 q)) (h:WR P n B w0 ops l K ((d, .int .i64 (p-q))::L) R) (hn:Nat.blt d n=true:=by exact rfl) (hb: -9223372036854775808<=p-q/\p-q<=9223372036854775807:=by omega):WR P n B w0 ops ({dst:=some d,op:= .binOp .sub t x y u,type:=ty,pos:=pos,after:=ml,guard:=none}::l) K L R:=XQ hn (jE hx hy hb) h
theorem wL {x y:Operand} {t u:TypeId} {k:IntKind} {p q:Int} (hx:ev L x=some (.int k p)) (hy:ev L y=some (.int k q)) (h:WR P n B w0 ops l K ((d, .bool (decide (p<q)))::L) R) (hn:Nat.blt d n=true:=by exact rfl):WR P n B w0 ops ({dst:=some d,op:= .binOp .lss t x y u,type:=ty,pos:=pos,after:=ml,guard:=none}::l) K L R:=XQ hn (eO hx hy) h
theorem wX {i:Nat} {x:Operand} {vs:Array Value} {v:Value} (hx:ev L x=some (.tuple vs)) (hv:vs[i]? =some v) (h:WR P n B w0 ops l K ((d,v)::L) R) (hn:Nat.blt d n=true:=by exact rfl):WR P n B w0 ops ({dst:=some d,op:= .extract x i,type:=ty,pos:=pos,after:=ml,guard:=none}::l) K L R:=XQ hn (jM hx hv) h
theorem wD {v:Value} {fuel:Nat} {ab:Array Bool} (i:Nat) (hi:ops[i]? =some {dst:=some d,op:=op,type:=ty,pos:=pos,after:=ml,guard:=none}) (hy:Yl P n B w0 op ty L R v) (h:WD P n B w0 ops K fuel (ab.setIfInBounds i true) ((d,v)::L) R) (hc:chk ops ab i=true:=by kernel_rfl) (hn:Nat.blt d n=true:=by exact rfl):WD P n B w0 ops K (fuel+1) ab L R:=bFz i hi hc hn hy h
theorem wq {id:Nat} {l:List Oper} {y:Code} {Q:eH} (h:WR P n B w0 l.toArray l (λL R=>W P n B w0 y Q L R) L R) (hd:yV n.rd l=true:=by exact rfl):W P n B w0 (.seq (.region id l.toArray false) y) Q L R:=aG (aM h hd)
theorem mbA {p q:Prop} [Decidable p] [Decidable q] (h:p↔q:=by first|omega|exact⟨λh=>⟨cF,h⟩,λh=>h.2⟩|exact .inl cF|exact⟨.inr,λh=>h.resolve_left cF⟩|exact⟨λh=>h.resolve_left cF, .inr⟩|simp[*]):Value.bool (decide p)=Value.bool (decide q):=mb h
theorem mfA {p:Prop} [Decidable p] (h: ¬p:=by first|omega|exact⟨λh=>⟨cF,h⟩,λh=>h.2⟩|exact .inl cF|exact⟨.inr,λh=>h.resolve_left cF⟩|exact⟨λh=>h.resolve_left cF, .inr⟩|simp[*]):Value.bool false=Value.bool (decide p):=bGe h
theorem mtA {p:Prop} [Decidable p] (h:p:=by first|omega|exact⟨λh=>⟨cF,h⟩,λh=>h.2⟩|exact .inl cF|exact⟨.inr,λh=>h.resolve_left cF⟩|exact⟨λh=>h.resolve_left cF, .inr⟩|simp[*]):Value.bool true=Value.bool (decide p):=bGd h
theorem wG {j e:Nat} {want:Bool} {v:Value} {fuel:Nat} {ab:Array Bool} (i:Nat) (hi:ops[i]? =some {dst:=some d,op:=op,type:=ty,pos:=pos,after:=ml,guard:=some (j,want)}) (hj:(ops[j]?).bind (·.dst)=some e) (hb:lk L e=some (.bool want)) (hy:Yl P n B w0 op ty L R v) (h:WD P n B w0 ops K fuel (ab.setIfInBounds i true) ((d,v)::L) R) (hc:chk ops ab i=true:=by kernel_rfl) (hn:Nat.blt d n=true:=by exact rfl):WD P n B w0 ops K (fuel+1) ab L R:=bCl i hi hc hn hj hb hy h
theorem wO {j e:Nat} {want b:Bool} {fuel:Nat} {ab:Array Bool} (i:Nat) (hi:ops[i]? =some {dst:=some d,op:=op,type:=ty,pos:=pos,after:=ml,guard:=some (j,want)}) (hj:(ops[j]?).bind (·.dst)=some e) (hb:lk L e=some (.bool b)) (h:WD P n B w0 ops K fuel (ab.setIfInBounds i true) ((d,undef)::L) R) (hc:chk ops ab i=true:=by kernel_rfl) (hn:Nat.blt d n=true:=by exact rfl) (da:(b==want)=false:=by exact rfl):WD P n B w0 ops K (fuel+1) ab L R:=bCm i hi hc hn hj hb da h
theorem wC {Post:Value->List Row->Prop} {fuel:Nat} {ab:Array Bool} (i:Nat) (hi:ops[i]? =some {dst:=some d,op:=op,type:=ty,pos:=pos,after:=ml,guard:=none}) (ha:Ac P n B w0 op ty L R Post) (h: ∀v R',Post v R'->(XD ops ab i=true\/ ∀w,Hp B w0 w R'->Hp B w0 w R)/\WD P n B w0 ops K fuel (ab.setIfInBounds i true) ((d,v)::L) R') (hr:Region.ready .any ops ab=[i]:=by kernel_rfl) (hn:Nat.blt d n=true:=by exact rfl):WD P n B w0 ops K (fuel+1) ab L R:=bGa i hi hr hn ha h
theorem wN {fuel:Nat} {ab:Array Bool} (h:K L R) (hr:Region.ready .any ops ab=[]:=by kernel_rfl):WD P n B w0 ops K fuel ab L R:=aZa hr h
theorem wn {x:Operand} {v:Value} (hx:ev L x=some v) (h:K ((d,v)::L) R) (hn:Nat.blt d n=true:=by exact rfl):WR P n B w0 ops ({dst:=some d,op:= .assign x,type:=ty,pos:=pos,after:=ml,guard:=none}::[]) K L R:=wg hx (aA h) hn
theorem sc {L1 L:Env} {t:Nat} {v:Value} (h:lk L t=some v) (hs:Sub L1 L):Sub ((t,v)::L1) L:=Sub.cons h hs
theorem SA {L1 L:Env} (h:Sub L1 L:=by repeat' first|exact Sub.nil|refine sc rfl ?_|refine Sub.to rfl mbA ?_|refine Sub.to rfl mfA ?_|refine Sub.to rfl mtA ?_):Sub L1 L:=h
abbrev I (x:Int):Value:= .int .i64 x
abbrev GG (g:Nat):Option Addr:=some ⟨g,0,none⟩
abbrev PG (g:Nat):Value:= .pointer (GG g)
abbrev sl (A:Option Addr) (m c:Nat):Value:= .slice A m c
abbrev bt:Value:= .bool true
abbrev bf:Value:= .bool false
abbrev rc (e s g:Nat) (l:List Value):Row:=⟨e,s,some ⟨g,0,none⟩,1,1,l,false⟩
abbrev ri (e:TypeId) (A:Option Addr) (m c:Nat) (l:List Int):Row:=⟨e,1,A,m,c,ints .i64 l,false⟩
abbrev ru (e:TypeId) (A:Option Addr) (m c:Nat) (l:List Int):Row:=⟨e,1,A,m,c,ints .u8 l,false⟩
end
end Go.Eng
namespace Go.Proofs.YtdbebmmhdefgdaaGreat
open Go Go.Eng
theorem mixed:Tryz.prog.follows .mixedOrders=true:=cA
theorem sz2:(Tryz.prog.info? 2).map (·.size)=some 1:=cA
theorem sz3:(Tryz.prog.info? 3).map (·.size)=some 1:=cA
theorem zb3:(Tryz.prog.info? 3).map (λi=>(i.zero,i.size,i.bytes))=some (some (.int .i64 0),1,8):=cA
theorem zs3:(Tryz.prog.info? 3).map (λi=>(i.zero,i.size))=some (some (.int .i64 0),1):=cA
theorem sz4:(Tryz.prog.info? 4).map (·.size)=some 1:=cA
theorem zb4:(Tryz.prog.info? 4).map (λi=>(i.zero,i.size,i.bytes))=some (some (.bool false),1,1):=cA
theorem sz5:(Tryz.prog.info? 5).map (·.size)=some 1:=cA
theorem zb5:(Tryz.prog.info? 5).map (λi=>(i.zero,i.size,i.bytes))=some (some (.int .u8 0),1,1):=cA
theorem zs5:(Tryz.prog.info? 5).map (λi=>(i.zero,i.size))=some (some (.int .u8 0),1):=cA
theorem bGc:(Tryz.prog.info? 21).map (·.size)=some 1:=cA
theorem dO:(Tryz.prog.info? 22).map (·.size)=some 1:=cA
theorem bCa:(Tryz.prog.info? 22).map (λi=>(i.zero,i.size,i.bytes))=some (some (.slice none 0 0),1,24):=cA
theorem xK:(Tryz.prog.info? 22).map (λi=>(i.zero,i.size))=some (some (.slice none 0 0),1):=cA
theorem bBv:(Tryz.prog.info? 22).map (·.zero)=some (some (.slice none 0 0)):=cA
theorem wP:(Tryz.prog.info? 23).map (·.size)=some 1:=cA
theorem AV:(Tryz.prog.info? 25).map (·.size)=some 2:=cA
theorem bBu:(Tryz.prog.info? 25).map (·.zero)=some (some (.agg #[(.slice none 0 0),(.slice none 0 0)])):=cA
theorem gG:(Tryz.prog.info? 27).map (·.size)=some 4:=cA
theorem bBt:(Tryz.prog.info? 27).map (·.zero)=some (some (.agg #[(.int .i64 0),(.int .i64 0),(.int .i64 0),(.int .i64 0)])):=cA
theorem gW:(Tryz.prog.info? 52).map (·.size)=some 1:=cA
theorem bFx:(Tryz.prog.info? 52).map (λi=>(i.zero,i.size,i.bytes))=some (some (.slice none 0 0),1,24):=cA
theorem bBx:(Tryz.prog.info? 52).map (λi=>(i.zero,i.size))=some (some (.slice none 0 0),1):=cA
theorem bFw:(Tryz.prog.info? 52).map (·.zero)=some (some (.slice none 0 0)):=cA
theorem aSv:(Tryz.prog.info? 56).map (·.size)=some 7:=cA
theorem aFz:(Tryz.prog.info? 84).map (·.size)=some 1:=cA
theorem fT:(Tryz.prog.info? 100).map (·.size)=some 1:=cA
theorem jW:(Tryz.prog.info? 106).map (·.size)=some 2:=cA
theorem bCc:(Tryz.prog.info? 106).map (λi=>(i.zero,i.size,i.bytes))=some (some (.agg #[(.int .i64 0),(.int .i64 0)]),2,16):=cA
theorem bBz:(Tryz.prog.info? 106).map (λi=>(i.zero,i.size))=some (some (.agg #[(.int .i64 0),(.int .i64 0)]),2):=cA
theorem aCe:(Tryz.prog.info? 106).map (·.zero)=some (some (.agg #[(.int .i64 0),(.int .i64 0)])):=cA
theorem dP:(Tryz.prog.info? 112).map (·.size)=some 1:=cA
theorem aLu:(Tryz.prog.info? 117).map (·.size)=some 2:=cA
theorem bCb:(Tryz.prog.info? 117).map (λi=>(i.zero,i.size,i.bytes))=some (some (.agg #[(.slice none 0 0),(.int .i64 0)]),2,32):=cA
theorem bBy:(Tryz.prog.info? 117).map (λi=>(i.zero,i.size))=some (some (.agg #[(.slice none 0 0),(.int .i64 0)]),2):=cA
theorem bBw:(Tryz.prog.info? 117).map (·.zero)=some (some (.agg #[(.slice none 0 0),(.int .i64 0)])):=cA
theorem aLt:(Tryz.prog.info? 123).map (·.size)=some 1:=cA
theorem aLs:(Tryz.prog.info? 135).map (·.size)=some 1:=cA
theorem aLr:(Tryz.prog.info? 136).map (·.size)=some 3:=cA
theorem xX:(Tryz.prog.info? 185).map (·.size)=some 1:=cA
theorem bCq:(Tryz.prog.info? 198).map (·.size)=some 3:=cA
theorem bCp:(Tryz.prog.info? 200).map (·.size)=some 1:=cA
theorem aXi:(Tryz.prog.info? 201).map (·.size)=some 256:=cA
theorem SE:(Tryz.prog.info? 228).map (·.size)=some 1:=cA
theorem mE:(Tryz.prog.info? 230).map (·.size)=some 2:=cA
theorem aWz:(Tryz.prog.info? 230).map (λi=>(i.zero,i.size,i.bytes))=some (some (.agg #[(.int .i64 0),(.int .i64 0)]),2,16):=cA
theorem aWy:(Tryz.prog.info? 230).map (λi=>(i.zero,i.size))=some (some (.agg #[(.int .i64 0),(.int .i64 0)]),2):=cA
theorem aKm:(Tryz.prog.info? 230).map (·.zero)=some (some (.agg #[(.int .i64 0),(.int .i64 0)])):=cA
theorem LV:(Tryz.prog.info? 248).map (·.size)=some 3:=cA
theorem aLq:(Tryz.prog.info? 269).map (·.size)=some 1:=cA
theorem bCo:(Tryz.prog.info? 350).map (·.size)=some 1:=cA
theorem bBs:(Tryz.prog.info? 350).map (·.zero)=some (some (.pointer none)):=cA
theorem bEy:Enters Tryz.prog 16:=enters Tryz.func16 cA cA
theorem bGz:Enters Tryz.prog 19:=enters Tryz.func19 cA cA
theorem aQd:Enters Tryz.prog 23:=enters Tryz.func23 cA cA
theorem bGy:Enters Tryz.prog 28:=enters Tryz.func28 cA cA
theorem bDs:Enters Tryz.prog 29:=enters Tryz.func29 cA cA
theorem aIz:Enters Tryz.prog 30:=enters qb cA cA
theorem bAx:Enters Tryz.prog 32:=enters Tryz.func32 cA cA
theorem bAw:Enters Tryz.prog 33:=enters Tryz.func33 cA cA
theorem bGx:Enters Tryz.prog 35:=enters Tryz.func35 cA cA
theorem bDb:Enters Tryz.prog 36:=enters Ga cA cA
theorem KW:Enters Tryz.prog 37:=enters Tryz.func37 cA cA
theorem KV:Enters Tryz.prog 38:=enters Tryz.func38 cA cA
theorem bGw:Enters Tryz.prog 39:=enters Tryz.func39 cA cA
theorem bGv:Enters Tryz.prog 40:=enters Tryz.func40 cA cA
theorem bGu:Enters Tryz.prog 41:=enters Iy cA cA
theorem bGt:Enters Tryz.prog 47:=enters Tryz.func47 cA cA
theorem bGs:Enters Tryz.prog 50:=enters Tryz.func50 cA cA
theorem bGr:Enters Tryz.prog 51:=enters Tryz.func51 cA cA
theorem VK:Enters Tryz.prog 57:=enters Tryz.func57 cA cA
theorem bAv:Enters Tryz.prog 58:=enters Iz cA cA
theorem aVx:Enters Tryz.prog 59:=enters Tryz.func59 cA cA
theorem bCz:Enters Tryz.prog 60:=enters Tryz.func60 cA cA
theorem bAu:Enters Tryz.prog 61:=enters Ja cA cA
theorem KU:Enters Tryz.prog 62:=enters Cg cA cA
theorem bAt:Enters Tryz.prog 68:=enters Tryz.func68 cA cA
theorem bGq:Enters Tryz.prog 69:=enters Tryz.func69 cA cA
theorem bGp:Enters Tryz.prog 70:=enters Tryz.func70 cA cA
theorem bGo:Enters Tryz.prog 71:=enters Tryz.func71 cA cA
theorem bGn:Enters Tryz.prog 72:=enters Tryz.func72 cA cA
theorem bGm:Enters Tryz.prog 73:=enters Tryz.func73 cA cA
theorem bAs:Enters Tryz.prog 74:=enters Jb cA cA
theorem aVw:Enters Tryz.prog 75:=enters Tryz.func75 cA cA
theorem bAr:Enters Tryz.prog 76:=enters Tryz.func76 cA cA
theorem aIy:Enters Tryz.prog 77:=enters Tryz.func77 cA cA
theorem aIx:Enters Tryz.prog 78:=enters Tryz.func78 cA cA
theorem bGl:Enters Tryz.prog 84:=enters Gb cA cA
theorem bCy:Enters Tryz.prog 87:=enters Tryz.func87 cA cA
theorem bGk:Enters Tryz.prog 89:=enters Tryz.func89 cA cA
theorem aIw:Enters Tryz.prog 90:=enters Tryz.func90 cA cA
theorem bGj:Enters Tryz.prog 91:=enters Jc cA cA
theorem bGi:Enters Tryz.prog 92:=enters Tryz.func92 cA cA
theorem bFn:Enters Tryz.prog 103:=enters Tryz.func103 cA cA
theorem aYr:Enters Tryz.prog 104:=enters Tryz.func104 cA cA
theorem aYq:Enters Tryz.prog 105:=enters Tryz.func105 cA cA
theorem bFm:Enters Tryz.prog 106:=enters Tryz.func106 cA cA
theorem aYp:Enters Tryz.prog 107:=enters Tryz.func107 cA cA
theorem VR:Enters Tryz.prog 108:=enters Tryz.func108 cA cA
theorem aYo:Enters Tryz.prog 109:=enters Tryz.func109 cA cA
theorem aYn:Enters Tryz.prog 110:=enters Tryz.func110 cA cA
theorem aYm:Enters Tryz.prog 111:=enters Tryz.func111 cA cA
theorem bFl:Enters Tryz.prog 114:=enters Tryz.func114 cA cA
theorem bFk:Enters Tryz.prog 115:=enters Tryz.func115 cA cA
theorem bFj:Enters Tryz.prog 116:=enters Tryz.func116 cA cA
theorem bFi:Enters Tryz.prog 117:=enters Tryz.func117 cA cA
theorem bFh:Enters Tryz.prog 118:=enters Tryz.func118 cA cA
theorem aYl:Enters Tryz.prog 119:=enters Tryz.func119 cA cA
theorem bFg:Enters Tryz.prog 120:=enters Tryz.func120 cA cA
theorem VQ:Enters Tryz.prog 121:=enters Tryz.func121 cA cA
theorem aYk:Enters Tryz.prog 122:=enters Tryz.func122 cA cA
theorem aYj:Enters Tryz.prog 124:=enters Tryz.func124 cA cA
theorem aYi:Enters Tryz.prog 126:=enters Tryz.func126 cA cA
theorem aYh:Enters Tryz.prog 127:=enters Tryz.func127 cA cA
theorem bFf:Enters Tryz.prog 128:=enters Tryz.func128 cA cA
theorem bFe:Enters Tryz.prog 129:=enters Tryz.func129 cA cA
theorem mG:Enters Tryz.prog 130:=enters Ht cA cA
theorem NS:Enters Tryz.prog 131:=enters Tryz.func131 cA cA
theorem aQn:Enters Tryz.prog 132:=enters Tryz.func132 cA cA
theorem JD:Enters Tryz.prog 133:=enters Tryz.func133 cA cA
theorem NR:Enters Tryz.prog 134:=enters Hu cA cA
theorem bFd:Enters Tryz.prog 135:=enters Tryz.func135 cA cA
theorem bFc:Enters Tryz.prog 136:=enters Tryz.func136 cA cA
theorem aYg:Enters Tryz.prog 146:=enters Tryz.func146 cA cA
theorem bFb:Enters Tryz.prog 147:=enters Tryz.func147 cA cA
theorem bFa:Enters Tryz.prog 148:=enters Tryz.func148 cA cA
theorem aQm:Enters Tryz.prog 149:=enters Hw cA cA
theorem aQl:Enters Tryz.prog 150:=enters Tryz.func150 cA cA
theorem aEu:Enters Tryz.prog 156:=enters Tryz.func156 cA cA
theorem bEz:Enters Tryz.prog 157:=enters Tryz.func157 cA cA
theorem aQk:Enters Tryz.prog 158:=enters Hy cA cA
theorem aQj:Enters Tryz.prog 159:=enters Hz cA cA
theorem aQi:Enters Tryz.prog 160:=enters Tryz.func160 cA cA
theorem aQh:Enters Tryz.prog 161:=enters Ia cA cA
theorem bEx:Enters Tryz.prog 178:=enters Tryz.func178 cA cA
theorem bEw:Enters Tryz.prog 179:=enters Tryz.func179 cA cA
theorem bEv:Enters Tryz.prog 181:=enters Tryz.func181 cA cA
theorem bEu:Enters Tryz.prog 182:=enters Tryz.func182 cA cA
theorem bEt:Enters Tryz.prog 183:=enters Tryz.func183 cA cA
theorem bEs:Enters Tryz.prog 184:=enters Tryz.func184 cA cA
theorem bEr:Enters Tryz.prog 185:=enters Tryz.func185 cA cA
theorem aYf:Enters Tryz.prog 186:=enters Tryz.func186 cA cA
theorem bEq:Enters Tryz.prog 189:=enters Tryz.func189 cA cA
theorem bEp:Enters Tryz.prog 190:=enters Tryz.func190 cA cA
theorem aYe:Enters Tryz.prog 194:=enters Ib cA cA
theorem aYd:Enters Tryz.prog 197:=enters Tryz.func197 cA cA
theorem aQg:Enters Tryz.prog 200:=enters Tryz.func200 cA cA
theorem aYc:Enters Tryz.prog 201:=enters Tryz.func201 cA cA
theorem aYb:Enters Tryz.prog 202:=enters Tryz.func202 cA cA
theorem aYa:Enters Tryz.prog 203:=enters Tryz.func203 cA cA
theorem bEo:Enters Tryz.prog 204:=enters Tryz.func204 cA cA
theorem aQf:Enters Tryz.prog 205:=enters Tryz.func205 cA cA
theorem aQe:Enters Tryz.prog 206:=enters Tryz.func206 cA cA
theorem bEn:Enters Tryz.prog 209:=enters Tryz.func209 cA cA
theorem bEm:Enters Tryz.prog 219:=enters Tryz.func219 cA cA
theorem bEl:Enters Tryz.prog 220:=enters Tryz.func220 cA cA
theorem bEk:Enters Tryz.prog 221:=enters Tryz.func221 cA cA
theorem bEj:Enters Tryz.prog 227:=enters Tryz.func227 cA cA
theorem bEi:Enters Tryz.prog 228:=enters Tryz.func228 cA cA
theorem bEh:Enters Tryz.prog 229:=enters Tryz.func229 cA cA
theorem bEg:Enters Tryz.prog 237:=enters Tryz.func237 cA cA
theorem bEf:Enters Tryz.prog 238:=enters Tryz.func238 cA cA
theorem JC:Enters Tryz.prog 239:=enters Tryz.func239 cA cA
theorem bEe:Enters Tryz.prog 240:=enters Tryz.func240 cA cA
theorem aXz:Enters Tryz.prog 241:=enters Tryz.func241 cA cA
theorem bEd:Enters Tryz.prog 242:=enters Tryz.func242 cA cA
theorem VP:Enters Tryz.prog 264:=enters Tryz.func264 cA cA
theorem aXy:Enters Tryz.prog 265:=enters Tryz.func265 cA cA
theorem aXx:Enters Tryz.prog 266:=enters Tryz.func266 cA cA
theorem bEc:Enters Tryz.prog 267:=enters Tryz.func267 cA cA
theorem bEb:Enters Tryz.prog 268:=enters Tryz.func268 cA cA
theorem bEa:Enters Tryz.prog 269:=enters Tryz.func269 cA cA
theorem bDz:Enters Tryz.prog 270:=enters Tryz.func270 cA cA
theorem bDy:Enters Tryz.prog 271:=enters Tryz.func271 cA cA
theorem bDx:Enters Tryz.prog 272:=enters Tryz.func272 cA cA
theorem bDw:Enters Tryz.prog 273:=enters Tryz.func273 cA cA
theorem bDv:Enters Tryz.prog 274:=enters Tryz.func274 cA cA
theorem bDu:Enters Tryz.prog 276:=enters Tryz.func276 cA cA
theorem bDt:Enters Tryz.prog 277:=enters Tryz.func277 cA cA
theorem aEt:Enters Tryz.prog 278:=enters Tryz.func278 cA cA
theorem VO:Enters Tryz.prog 279:=enters Tryz.func279 cA cA
theorem aEs:Enters Tryz.prog 280:=enters Tryz.func280 cA cA
theorem aXw:Enters Tryz.prog 290:=enters Tryz.func290 cA cA
theorem aXv:Enters Tryz.prog 291:=enters Tryz.func291 cA cA
theorem bDr:Enters Tryz.prog 292:=enters Tryz.func292 cA cA
theorem NQ:Enters Tryz.prog 293:=enters Tryz.func293 cA cA
theorem bDq:Enters Tryz.prog 294:=enters Tryz.func294 cA cA
theorem aXu:Enters Tryz.prog 295:=enters Tryz.func295 cA cA
theorem bDp:Enters Tryz.prog 296:=enters Tryz.func296 cA cA
theorem bDo:Enters Tryz.prog 297:=enters Tryz.func297 cA cA
theorem bDn:Enters Tryz.prog 298:=enters Tryz.func298 cA cA
theorem bDm:Enters Tryz.prog 299:=enters Tryz.func299 cA cA
theorem aQc:Enters Tryz.prog 300:=enters Tryz.func300 cA cA
theorem aQb:Enters Tryz.prog 301:=enters Tryz.func301 cA cA
theorem aQa:Enters Tryz.prog 302:=enters Tryz.func302 cA cA
theorem aXt:Enters Tryz.prog 313:=enters Tryz.func313 cA cA
theorem aXs:Enters Tryz.prog 314:=enters Tryz.func314 cA cA
theorem aXr:Enters Tryz.prog 315:=enters Tryz.func315 cA cA
theorem bDl:Enters Tryz.prog 316:=enters Tryz.func316 cA cA
theorem aXq:Enters Tryz.prog 317:=enters Tryz.func317 cA cA
theorem aXp:Enters Tryz.prog 318:=enters Tryz.func318 cA cA
theorem bDk:Enters Tryz.prog 319:=enters Tryz.func319 cA cA
theorem bDj:Enters Tryz.prog 320:=enters Tryz.func320 cA cA
theorem aXo:Enters Tryz.prog 321:=enters Tryz.func321 cA cA
theorem bDi:Enters Tryz.prog 322:=enters Tryz.func322 cA cA
theorem bDh:Enters Tryz.prog 323:=enters Tryz.func323 cA cA
theorem VM:Enters Tryz.prog 324:=enters Tryz.func324 cA cA
theorem bDg:Enters Tryz.prog 325:=enters Tryz.func325 cA cA
theorem bDf:Enters Tryz.prog 326:=enters Tryz.func326 cA cA
theorem VL:Enters Tryz.prog 327:=enters Tryz.func327 cA cA
theorem bDe:Enters Tryz.prog 344:=enters Tryz.func344 cA cA
theorem bDd:Enters Tryz.prog 345:=enters Tryz.func345 cA cA
theorem bDc:Enters Tryz.prog 346:=enters Tryz.func346 cA cA
theorem aXn:Enters Tryz.prog 347:=enters Tryz.func347 cA cA
theorem bDa:Enters Tryz.prog 361:=enters Tryz.func361 cA cA
end Go.Proofs.YtdbebmmhdefgdaaGreat
namespace Go.Pure
open Go.Eng
def kD (a b:Int):Int:=if a<b then -1 else if b<a then 1 else 0
def cmpL:List Int->List Int->Int
 |[],[]=>0
 |[],_::_=> -1
 |_::_,[]=>1
 |a::s,b::t=>if a<b then -1 else if b<a then 1 else cmpL s t
theorem nV {l:List Int} {i:Int} (h0:0<=i) (h:i<l.length):l.drop i.toNat=rd l i::l.drop (i+1).toNat:=by
 have hl:i.toNat<l.length:=G
 have e:(i+1).toNat=i.toNat+1:=G
 rw[e,jw hl];simp[rd,af,av hl]
theorem aJp (a b:Int):kD b a= -kD a b:=by unfold kD;split<;>split<;>omega
def rep (w:List Int) (k:Int):List Int:=(List.replicate k.toNat w).flatten
theorem oW (w:List Int) (k:Int):(rep w k).length=k.toNat*w.length:=by
 unfold rep;rw[si,List.map_replicate,List.sum_replicate_nat]
variable {d N:Nat} {c:Int}
def om (u:List Int) (i:Nat):Int:=u.getD (i%u.length) 0
theorem bCt (u:List Int) (k:Nat):rd u ((k:Int)%u.length)=om u k:=by
 unfold rd om;rw[<-zi,az]
theorem CW {u:List Int} {i:Nat} (h:i<u.length):om u i=u.getD i 0:=by
 unfold om;rw[lc h]
def Per (W:Nat->Int) (d:Nat):Prop:= ∀i,W (i+d)=W i
theorem uD (u:List Int):Per (om u) u.length:=by
 intro i;unfold om;rw[Nat.add_mod_right]
theorem Per.mul {W:Nat->Int} (h:Per W d): ∀k,Per W (d*k)
 |0=>λi=>by rw[Nat.mul_zero,qa]
 |k+1=>λi=>by rw[Nat.mul_succ,<-qd,h,h.mul k]
theorem Per.mod {W:Nat->Int} (h:Per W d) (i:Nat):W (i%d)=W i:=by
 have:=h.mul (i/d) (i%d);rw[Nat.mod_add_div] at this;exact this.symm
theorem Per.gcd {W:Nat->Int} (a b:Nat):Per W a->Per W b->Per W (Nat.gcd a b):=by
 induction a,b using Nat.gcd.induction with
 |H0 n=>intro _ h;rw[Nat.gcd_zero_left];exact h
 |H1 m n hm ih=>
  intro h1 h2;rw[Nat.gcd_rec];refine ih ?_ h1;intro i;have e:=h1.mul (n/m) (i+n%m);rw[qd,Nat.mod_add_div] at e;rw[<-e];exact h2 i
theorem agree {U V:Nat->Int} {p q:Nat} (hp:0<p) (hq:0<q) (hU:Per U p) (hV:Per V q) (h: ∀i,i<p+q->U i=V i): ∀i,U i=V i:=by
 intro i
 induction i using Nat.strongRecOn with
 | _ i ih=>
  by_cases hi:i<p+q
  ·exact h i hi
  ·have e1:U i=U (i-p):=by have:=hU (i-p);rw[qf G] at this;exact this
   have e2:V (i-p)=V (i-p-q):=by have:=hV (i-p-q);rw[qf G] at this;exact this
   have e3:U (i-q)=U (i-p-q):=by have:=hU (i-p-q);rw[show i-p-q+p=i-q by omega] at this;exact this
   have e4:V i=V (i-q):=by have:=hV (i-q);rw[qf G] at this;exact this
   rw[e1,ih (i-p) G,e2,<-ih (i-p-q) G,<-e3,ih (i-q) G,<-e4]
def FD (U V:Nat->Int) (N:Nat) (c:Int):Prop:=(c=0/\ ∀i,i<N->U i=V i)\/ ∃k,k<N/\(∀i,i<k->U i=V i)/\U k≠V k/\c=kD (U k) (V k)
theorem jT {a b:Int}:kD a b=0↔a=b:=by unfold kD;split<;>(try split)<;>omega
theorem FD.uniq {U V:Nat->Int} {M:Nat} {d:Int} (h:FD U V N c) (h':FD U V M d) (hc:c=0-> ∀i,i<M->U i=V i) (hd:d=0-> ∀i,i<N->U i=V i):c=d:=by
 rcases h with⟨rfl,h⟩|⟨k,hk,h,hn,e⟩
 ·rcases h' with⟨rfl,_⟩|⟨k',kx,_,Rq,e'⟩
  ·rfl
  ·exact absurd (hc rfl k' kx) Rq
 ·rcases h' with⟨rfl,h'⟩|⟨k',kx,h',Rq,e'⟩
  ·exact absurd (hd rfl k hk) hn
  ·have:k=k':=by
    by_cases h1:k<k'
    ·exact absurd (h' k h1) hn
    ·by_cases h2:k'<k
     ·exact absurd (h k' h2) Rq
     ·omega
   subst this;rw[e,e']
theorem FD.step {U V:Nat->Int} (h0:U 0=V 0) (h:FD (λi=>U (i+1)) (λi=>V (i+1)) N c):FD U V (N+1) c:=by
 rcases h with⟨rfl,h⟩|⟨k,hk,h,hn,e⟩
 ·refine .inl ⟨rfl,λi hi=> ?_⟩;cases i with
  |zero=>exact h0
  |succ i=>exact h i G
 ·refine .inr ⟨k+1,G,λi hi=> ?_,hn,e⟩;cases i with
  |zero=>exact h0
  |succ i=>exact h i G
def Lt (U V:Nat->Int):Prop:= ∃k,(∀i,i<k->U i=V i)/\U k<V k
theorem Lt.trans {U V W:Nat->Int} (h:Lt U V) (h':Lt V W):Lt U W:=by
 obtain⟨k,h,hk⟩:=h;obtain⟨m,h',hm⟩:=h';by_cases h1:k<m
 ·exact⟨k,λi hi=>by rw[h i hi,h' i G],by rw[<-h' k h1];exact hk⟩
 ·by_cases h2:m<k
  ·exact⟨m,λi hi=>by rw[h i G,h' i hi],by rw[h m h2];exact hm⟩
  ·have:k=m:=G
   subst this;exact⟨k,λi hi=>by rw[h i hi,h' i hi],G⟩
theorem GC (w:List Int): ∀(k i:Nat),i<k*w.length->(rep w k).getD i 0=om w i
 |0,i,h=>G
 | k+1,i,h=>by
  have e:((k+1:Nat):Int)=1+(k:Int):=G
  have e2:rep w ((k+1:Nat):Int)=w++rep w k:=by
   unfold rep;rw[show((k+1:Nat):Int).toNat=k+1 by omega,List.replicate_succ];simp
  rw[e2];by_cases hi:i<w.length
  ·rw[CW hi,af,af,je hi]
  ·rw [af,iy G,<-af,GC w k (i-w.length) (by rw[xm] at h;omega)];have:=uD w (i-w.length);rw[qf G] at this;exact this.symm
variable {u:List Int} {f p:Nat}
def lpF (u:List Int):Nat->Int->Int
 |0,_=>0
 |f+1,p=>if u.drop p.toNat=u.take ((u.length:Int)-p).toNat then p else lpF u f (p+1)
def lp (u:List Int):Int:=lpF u u.length 1
theorem aVe {p:Int} (hf:0<f) (h:u.drop p.toNat=u.take ((u.length:Int)-p).toNat):lpF u f p=p:=by
 obtain⟨f,rfl⟩: ∃g,f=g+1:=⟨f-1,G⟩;rw[lpF,cu h]
theorem bAk {p:Int} (hf:0<f) (h: ¬u.drop p.toNat=u.take ((u.length:Int)-p).toNat):lpF u f p=lpF u (f-1) (p+1):=by
 obtain⟨f,rfl⟩: ∃g,f=g+1:=⟨f-1,G⟩;rw[lpF,bu h];rfl
def KC (u:List Int) (p:Nat):Prop:=u.drop p=u.take (u.length-p)
theorem GZ:KC u p↔ ∀i,i+p<u.length->u.getD (i+p) 0=u.getD i 0:=by
 constructor
 ·intro h i hi;have:=bz (λl=>l.getD i 0) h;simp only[af,qc,oh] at this;rw[cu G] at this;rw[af,af,wh];exact this
 ·intro h;refine ve cD λi h1 h2=> ?_;simp only[bg] at h1;have:=h i G;simp only[af] at this;rw[av G,av G] at this;simp only[mh] at this;rw[Fv,Ai,<-this];simp only[wh]
theorem UJ (u:List Int): ∀(f:Nat) (p:Nat),1<=p->p+f=u.length+1->p<=u.length-> ∃r:Nat,lpF u f p=r/\p<=r/\r<=u.length/\KC u r/\ ∀q,p<=q->q<r-> ¬KC u q
 |0,p,_,h2,h3=>G
 | f +1,p,h1,h2,h3=>by
  have e:((u.length:Int)-(p:Int)).toNat=u.length-p:=G
  by_cases h:KC u p
  ·refine ⟨p,aVe G ?_,dh _,h3,h,λq a b=>G⟩;rw[az,e];exact h
  ·rw [bAk G (by rw[az,e];exact h)]
   have aw:p<u.length:=by
    rcases fe p u.length with h'|h'
    ·exact h'
    ·have:p=u.length:=G
     subst this;exact absurd (by unfold KC;simp) h
   obtain⟨r,hr,h4,h5,h6,h7⟩:=UJ u f (p+1) G G G;refine⟨r,?_,G,h5,h6,λq a b=> ?_⟩
   ·rw[<-hr];rfl
   ·by_cases hq:q=p
    ·subst hq;exact h
    ·exact h7 q G b
theorem EO (h:0<u.length): ∃r:Nat,lp u=r/\1<=r/\r<=u.length/\KC u r/\ ∀q,1<=q->q<r-> ¬KC u q:=
 UJ u u.length 1 (dh 1) G h
def rl (u:List Int):Int:=if (u.length:Int)%lp u≠0 then u.length else lp u
theorem TT (hp:0<p) (h:KC u p): ∀i,i<u.length->u.getD i 0=u.getD (i%p) 0:=by
 intro i
 induction i using Nat.strongRecOn with
 | _ i ih=>
  intro hi;by_cases aw:i<p
  ·rw[lc aw]
  ·have:=GZ.1 h (i-p) G;rw[qf G] at this;rw[this,ih (i-p) G G,<-zq G]
theorem aDv (hp:0<p) (hn:p<=u.length) (i:Nat):om (u.take p) i=u.getD (i%p) 0:=by
 unfold om;rw[ax,xu hn];simp only[af];rw[oh,cu (yg _ hp)]
theorem aUm (hp:0<p) (hn:p<=u.length) (hd:p∣u.length) (h:KC u p) (i:Nat):om u i=om (u.take p) i:=by
 rw[aDv hp hn];unfold om;rw[TT hp h _ (yg _ G),Nat.mod_mod_of_dvd _ hd]
theorem aDs {d:Nat} (h:Per (om u) d):KC u d:=by
 refine GZ.2 λi hi=> ?_;rw[<-CW hi,<-CW (by omega:i<u.length)];exact h i
theorem aDd (h:0<u.length): ∃r:Nat,rl u=r/\1<=r/\r<=u.length/\(∀i,om u i=om (u.take r) i)/\ ∀d,1<=d->Per (om u) d->r<=d:=by
 obtain⟨p,hp,h1,h2,h3,h4⟩:=EO h
 have key: ∀d,1<=d->Per (om u) d->d<u.length->p∣u.length/\p<=d:=by
  intro d hd mm aw;have hg:Per (om u) (Nat.gcd d u.length):=Per.gcd _ _ mm (uD u);have g1:Nat.gcd d u.length∣u.length:=Nat.gcd_dvd_right _ _;have g2:Nat.gcd d u.length<=d:=Nat.le_of_dvd G (Nat.gcd_dvd_left _ _);have g3:0<Nat.gcd d u.length:=Nat.gcd_pos_of_pos_left _ G;generalize Nat.gcd d u.length=g at*
  have p1:p<=g:=by
   rcases fe g p with a|a
   ·exact absurd (aDs hg) (h4 g g3 a)
   ·exact a
  have g4:2*g<=u.length:=by
   obtain⟨k,hk⟩:=g1
   have:2<=k:=by
    rcases fe k 2 with a|a
    ·have:k=0\/k=1:=G
     rcases this with rfl|rfl<;>omega
    ·exact a
   rw[hk]
   calc 2*g<=k*g:=ug _ this
    _=g*k:=zt _ _
  have ag: ∀i,om (u.take p) i=om u i:=by
   refine agree (p:=p) (q:=g) G g3 ?_ hg λi hi=> ?_
   ·have:=uD (u.take p);rwa[ax,xu h2] at this
   ·rw[aDv G h2,CW G,<-TT G h3 i G]
  have pp:Per (om u) p:=by
   intro i;rw[<-ag,<-ag];have:=uD (u.take p) i;rwa[ax,xu h2] at this
  have hh:Per (om u) (Nat.gcd p u.length):=Per.gcd _ _ pp (uD u);have e1:Nat.gcd p u.length∣p:=Nat.gcd_dvd_left _ _;have e2:Nat.gcd p u.length∣u.length:=Nat.gcd_dvd_right _ _;have e3:0<Nat.gcd p u.length:=Nat.gcd_pos_of_pos_left _ G;have e4:=Nat.le_of_dvd G e1
  have e5:p<=Nat.gcd p u.length:=by
   rcases fe (Nat.gcd p u.length) p with a|a
   ·exact absurd (aDs hh) (h4 _ e3 a)
   ·exact a
  have e6:Nat.gcd p u.length=p:=G
  rw[e6] at e2;exact⟨e2,G⟩
 by_cases hd:p∣u.length
 ·refine ⟨p,?_,h1,h2,aUm G h2 hd h3,λd a b=> ?_⟩
  ·unfold rl;rw[hp,bu]
   ·intro hn;refine hn ?_;rw[<-zi,Nat.mod_eq_zero_of_dvd hd];rfl
  ·rcases fe d u.length with c|c
   ·exact(key d a b c).2
   ·omega
 ·refine ⟨u.length,?_,G,dh _,λi=>by rw[ul],λd a b=> ?_⟩
  ·unfold rl;rw[hp,cu];intro hz;rw[<-zi] at hz;exact hd (Nat.dvd_of_mod_eq_zero G)
  ·rcases fe d u.length with c|c
   ·exact absurd (key d a b c).1 hd
   ·exact c
theorem yD (h:0<u.length):1<=rl u/\rl u<=u.length:=by
 obtain⟨r,e,h1,h2,_⟩:=aDd h;omega
theorem aOl (h:0<u.length):1<=lp u/\lp u<=u.length:=by
 obtain⟨r,e,h1,h2,_⟩:=EO h;omega
theorem aZz {a:Nat} (hu:0<u.length) (ha:0<a) (i:Nat):om (rep u a) i=om u i:=by
 have l:(rep u a).length=a*u.length:=by rw[oW,az]
 have hp:0<a*u.length:=Iw ha hu;have hm:i%(a*u.length)<a*u.length:=yg _ hp;have e:om (rep u a) i=(rep u a).getD (i%(rep u a).length) 0:=rfl;rw[e,l,GC u a _ hm];unfold om;rw[Nat.mod_mod_of_dvd _ (Nat.dvd_mul_left _ _)]
end Go.Pure
namespace Go.Eng
open Go Go.RowKit
variable {w:World}
theorem rd_none (k:IntKind):Rd w none ([]:List Int).length 0 1 (ints k []):=⟨rfl,cD,cD,λj v hv=>by simp[ints] at hv⟩
theorem rd_open {k:IntKind} {x:Addr} {len cap:Nat} {zs:List Int} (hl:len<=cap) (hm:cap<=maxLen) (hz:zs.length=cap) (hcell: ∀i,i<zs.length->w.cell? (x.add i)=some (.int k (zs.getD i 0))) (hwz: ∀n∈zs,(Lit.int k n).wf=true):
  ∃l:List Int,len=l.length/\Rd w (some x) l.length cap 1 (ints k l)/\ ∀n∈l,(Lit.int k n).wf=true:=by
 unfold maxLen at hm;have hlen:(zs.take len).length=len:=by rw[ax];omega
 refine⟨zs.take len,hlen.symm,⟨by rw[bV];omega,G,G,λj v hv=>⟨x,rfl,?_⟩⟩,λn hn=>hwz n (lu hn)⟩
 have hj:j<len:=by
  rcases fe j len with h|h
  ·exact h
  ·rw[ll (by rw[bV];omega)] at hv;cases hv
 rw[hcell j G];have Xi:j<zs.length:=G
 simp[ints,hj,av Xi] at hv;subst hv;simp[af,av Xi]
theorem byteL_wf {l:List Int} (h: ∀x∈l,(Lit.int .u8 x).wf=true):aO l:=λx hx=>by
 have:=h x hx;have:=bounds_u8 this;omega
end Go.Eng
namespace Go.Eng
open Go
section
variable {P:Program} {n:Nd} {B:Nat} {w0:World} {L:Env} {R:List Row} {ty:TypeId}
theorem zY (g j:Nat):(⟨g,0,none⟩:Addr).add j=⟨g,j,none⟩:=by unfold Addr.add;split<;>simp_all
theorem Hp.cellAt {w:World} (h:Hp B w0 w R) (i:Nat) {r:Row} {g j:Nat} {v:Value} (hi:R[i]? =some r) (hA:r.A=some ⟨g,0,none⟩) (hv:r.xs[j]? =some v):w.cell? ⟨g,j,none⟩=some v:=by
 obtain⟨a,ha,hc⟩:=(Row.rd (h.own r (ek hi))).cell hv;rw[hA] at ha;simp only[pat,jr,lm] at ha;rw[zY] at ha;rw[ha];exact hc
theorem Hp.openAt {w:World} (h:Hp B w0 w R) (i:Nat) {r:Row} {g:Nat} (j:Nat) (hi:R[i]? =some r) (li:r.ro=false) (hA:r.A=some ⟨g,0,none⟩):w.frozen? ⟨g,j,none⟩=false:=by
 have hw:=Row.lies_w (h.own r (ek hi)) li;rcases hw.2 with⟨hn,_⟩|⟨g',cap,cur,hs,hb,hg,_⟩
 ·rw[hA] at hn;cases hn
 ·rw [hA] at hs;simp only[jq,lm,Ab,Aa,zm] at hs;obtain⟨rfl,rfl⟩:=hs;unfold World.frozen?;simp[hg]
theorem SC {α:Type} (l:List α) (j k:Nat) (v:α):(l.set j v).take k=(l.take k).set j v:=by
 apply su;intro i;simp only[oh,vw,ax];by_cases h1:i<k
 ·by_cases h2:j=i
  ·subst h2;have e:(j<min k l.length)=(j<l.length):=by rw[eq_iff_iff];omega
   simp[h1,e]
  ·simp[h1,h2]
 ·by_cases h2:j=i
  ·subst h2;have e: ¬j<min k l.length:=G
   simp[h1,e]
  ·simp[h1,h2]
theorem Hp.set1 {w:World} (h:Hp B w0 w R) (i:Nat) {r:Row} {g j:Nat} {v:Value} (hi:R[i]? =some r) (li:r.ro=false) (hA:r.A=some ⟨g,0,none⟩):Hp B w0 (w.setCell ⟨g,j,none⟩ v) (R.set i {r with xs:=r.xs.set j v}):=by
 have hw:=Row.lies_w (h.own r (ek hi)) li;rcases hw.2 with⟨hn,_⟩|⟨g',cap,cur,hs,hb,hg,hnc,pj,hcs,ht⟩
 ·rw[hA] at hn;cases hn
 ·rw [hA] at hs;simp only[jq,lm,Ab,Aa,zm] at hs;obtain⟨rfl,rfl⟩:=hs;have aw:g<w.heap.size:=(dz.1 hg).1;have My:w.heap[g]= .cells cur r.e (0,0):=(dz.1 hg).2
  have Rj:(w.setCell ⟨g,j,none⟩ v).heap[g]? =some (.cells (cur.setIfInBounds j v) r.e (0,0)):=by
   simp[World.setCell,aw,Array.getElem_modify,My]
  refine h.upd hi (row:=some g) ⟨rfl,rfl,rfl,by simp[World.setCell],λk _ hk=> ?_⟩ (dh _) (λk hk=> ?_) ?_ (λa' ki=> .inl ⟨a',ki,rfl⟩)
  ·have: ¬g=k:=λe=>hk (by simp[e]);simp[World.setCell,uo,this]
  ·obtain rfl:=iw hk;exact⟨_,hA,rfl⟩
  ·unfold Row.lies;simp only[li];refine⟨by simpa using hw.1, .inr ⟨g,r.c,_,by rw[hA],hb,Rj,hnc,pj,by simpa using hcs,?_⟩⟩;rw[Array.toList_setIfInBounds,SC,ht]
theorem aFl {f:FuncId} {i6:List Operand} {ts:Array TypeId} {vs:List Value} {v:Value} {R1:List Row} (ha:evs L i6=some vs) (hc: ∀w,Hp B w0 w R-> ∃w',(callFunc f vs.toArray).run P w= .ok (.value v) w'/\Hp B w0 w' R1):
  Ac P n B w0 (.call {callee:= .value (.func f),args:=i6.toArray,argTypes:=ts}) ty L R (λu R'=>u=v/\R'=R1):=by
 intro a w o K Q ho _ hs hp hk;have e1:=hs.evs ha;obtain⟨w',hr,bw⟩:=hc w hp;have hf:ev L (.func f)=some (.func (.func f) #[] #[]):=rfl;unfold Oper.wp;simp only[execOp,ho,resolve,hs.ev hf,Deferred.ofValue,invoke,jm,lv,jk,rf,e1,ry,jb,jo,hr,Oper.upon];exact hk _ _ _ bw ⟨rfl,rfl⟩
end
def bv (x:BitVec 32):Int:=(x.toNat:Int)
theorem xN (m:Nat) (h:m<4294967296):IntKind.u32.wrap (m:Int)=m:=by
 rw[IntKind.wrap_u32];omega
theorem qZ (x:BitVec 32):BitVec.ofInt 32 (bv x)=x:=by
 apply BitVec.eq_of_toNat_eq;unfold bv;have:=x.isLt;simp
theorem aRl {x y:BitVec 32} (h:bv x=bv y):x=y:=by
 have:=bz (BitVec.ofInt 32) h;rwa[qZ,qZ] at this
theorem aSm (p:Int):IntKind.u32.wrap p=bv (BitVec.ofInt 32 p):=by
 rw[IntKind.wrap_u32];unfold bv;rw[Bu];omega
section
variable {P:Program} {n:Nd} {B:Nat} {w0:World} {L:Env} {R:List Row} {ty:TypeId}
theorem aTm (p q:BitVec 32) (w:World):(Op.intBits .and .u32 (bv p) (bv q)).run P w= .ok (.int .u32 (bv (p &&& q))) w:=by
 show Result.ok (Value.int .u32 (IntKind.u32.wrap ((BitVec.ofInt 32 (bv p) &&& BitVec.ofInt 32 (bv q)).toNat:Int))) w=_;rw[qZ,qZ,xN _ (BitVec.isLt _)];rfl
theorem aTi (p q:BitVec 32) (w:World):(Op.intBits .xor .u32 (bv p) (bv q)).run P w= .ok (.int .u32 (bv (p^^^q))) w:=by
 show Result.ok (Value.int .u32 (IntKind.u32.wrap ((BitVec.ofInt 32 (bv p)^^^BitVec.ofInt 32 (bv q)).toNat:Int))) w=_;rw[qZ,qZ,xN _ (BitVec.isLt _)];rfl
theorem aTj (p:BitVec 32) (j:IntKind) (k:Nat) (hk:k<=32) (w:World):(Op.shift .shr .u32 (bv p) j (k:Int)).run P w= .ok (.int .u32 (bv (p>>>k))) w:=by
 have hn: ¬((k:Int)<0):=G
 have hm:min (k:Int).toNat (IntKind.bits .u32)=k:=by
  have:IntKind.bits .u32=32:=rfl;omega
 have he:Int.fdiv (bv p) (2^k)=bv (p>>>k):=by
  unfold bv;rw[BitVec.toNat_ushiftRight,Nat.shiftRight_eq_div_pow,Am _ (by exact uq G)];simp
 unfold Op.shift;rw[bu hn];simp only[hm,lv];rw[he]
theorem aKv {x y:Operand} {t u:TypeId} {p q:BitVec 32} (hx:ev L x=some (.int .u32 (bv p))) (hy:ev L y=some (.int .u32 (bv q))):Yl P n B w0 (.binOp .and t x y u) ty L R (.int .u32 (bv (p &&& q))):=by
 intro a w o ho _ hs _;simp[execOp,ho,binOp,eqGuard,hs.ev hx,hs.ev hy,aTm]
theorem OJ {x y:Operand} {t u:TypeId} {p q:BitVec 32} (hx:ev L x=some (.int .u32 (bv p))) (hy:ev L y=some (.int .u32 (bv q))):Yl P n B w0 (.binOp .xor t x y u) ty L R (.int .u32 (bv (p^^^q))):=by
 intro a w o ho _ hs _;simp[execOp,ho,binOp,eqGuard,hs.ev hx,hs.ev hy,aTi]
theorem aKp {x y:Operand} {t u:TypeId} {p:BitVec 32} {j:IntKind} {k:Nat} (hx:ev L x=some (.int .u32 (bv p))) (hy:ev L y=some (.int j (k:Int))) (hk:Nat.ble k 32=true):Yl P n B w0 (.binOp .shr t x y u) ty L R (.int .u32 (bv (p>>>k))):=by
 intro a w o ho _ hs _;simp[execOp,ho,binOp,eqGuard,hs.ev hx,hs.ev hy,aTj p j k (au hk)]
theorem aCk {x:Operand} {s d:TypeId} {j:IntKind} {p:Int} {td:TypeDesc} (dg:P.underlying s=some td) (hd:P.underlying d=some (.int .u32)) (hx:ev L x=some (.int j p)):Yl P n B w0 (.convert s d x) ty L R (.int .u32 (bv (BitVec.ofInt 32 p))):=by
 have:=oM (P:=P) (n:=n) (B:=B) (w0:=w0) (R:=R) (ty:=ty) dg hd hx;rwa[aSm] at this
theorem bCj {x y:Operand} {t u:TypeId} {p q:BitVec 32} (hx:ev L x=some (.int .u32 (bv p))) (hy:ev L y=some (.int .u32 (bv q))):Yl P n B w0 (.binOp .eql t x y u) ty L R (.bool (decide (p=q))):=by
 have:=bC (P:=P) (n:=n) (B:=B) (w0:=w0) (R:=R) (ty:=ty) (t:=t) (u:=u) hx hy
 have e:(decide (bv p=bv q))=decide (p=q):=by
  rw[zl];exact⟨aRl,λh=>by rw[h]⟩
 rwa[e] at this
theorem aKr {x y:Operand} {t u:TypeId} {p q:BitVec 32} (hx:ev L x=some (.int .u32 (bv p))) (hy:ev L y=some (.int .u32 (bv q))):Yl P n B w0 (.binOp .neq t x y u) ty L R (.bool (decide (p≠q))):=by
 have:=iZ (P:=P) (n:=n) (B:=B) (w0:=w0) (R:=R) (ty:=ty) (t:=t) (u:=u) hx hy
 have e:(decide (bv p≠bv q))=decide (p≠q):=by
  rw[zl];exact⟨λh e=>h (by rw[e]),λh e=>h (aRl e)⟩
 rwa[e] at this
theorem OZ (k:Nat) (t d:TypeId) (p:Option Addr) (ht:P.underlying t=some (.pointer d)) (w:World):(Op.equalIn (k+1) t (.pointer p) (.pointer none)).run P w= .ok p.isNone w:=by
 cases p<;>simp[Op.equalIn,lq ht,samePointer]
theorem FV (t d:TypeId) (p:Option Addr) (ht:P.underlying t=some (.pointer d)) (w:World):(Op.equal t (.pointer p) (.pointer none)).run P w= .ok p.isNone w:=by
 exact OZ 9999 t d p ht w
theorem aB {x:Operand} {t tf:TypeId} {fs:Array Field} {k st g j off m:Nat} (hu:P.underlying t=some (.struct fs)) (hf:(fs[k]?).map (λf=>(f.offset,f.type))=some (off,tf)) (ee:(P.info? tf).map (·.size)=some st) (u6:Nat.blt 0 st=true) (hx:ev L x=some (.pointer (some ⟨g,j,none⟩))) (hm:j+off=m):
  Yl P n B w0 (.fieldAddr t x k) ty L R (.pointer (some ⟨g,m,none⟩)):=by
 obtain⟨f,Ov,he⟩:=ib.1 hf;simp only[xh] at he;obtain⟨rfl,rfl⟩:=he;have:=sW (P:=P) (n:=n) (B:=B) (w0:=w0) (R:=R) (ty:=ty) hu Ov ee u6 hx
 have e:(⟨g,j,none⟩:Addr).add f.offset=⟨g,m,none⟩:=by
  rw[<-hm];unfold Addr.add;split<;>simp_all
 rwa[e] at this
theorem LD {x ix:Operand} {t e:TypeId} {k:IntKind} {g m N:Nat} {i:Int} {r:Row} (q:Nat) (hq:R[q]? =some r) (hA:r.A=some ⟨g,0,none⟩) (ht:P.underlying t=some (.array N e)) (hi:(P.info? e).map (·.size)=some 1) (hx:ev L x=some (.pointer (some ⟨g,m,none⟩))) (rm:ev L ix=some (.int k i)) (aw:m<r.xs.length) (h0:0<=i) (h1:i<N):
  Yl P n B w0 (.indexAddr t x ix) ty L R (.pointer (some ⟨g,m+i.toNat,none⟩)):=by
 have Fm:(some ⟨g,m,none⟩:Option Addr)=pat (some ⟨g,0,none⟩) m:=by
  simp only[pat,jr,zY]
 have:=EX (P:=P) (n:=n) (B:=B) (w0:=w0) (ty:=ty) ht hi hx Fm rm (hA▸rdR q hq) aw h0 h1;rw[qy] at this;simpa only[pat,jr,zY] using this
theorem aYw {x:Operand} {t:TypeId} {d:TypeDesc} {g j:Nat} {v:Value} {r:Row} (q:Nat) (hq:R[q]? =some r) (hA:r.A=some ⟨g,0,none⟩) (hu:P.underlying t=some d) (hd:BZ d=false) (hx:ev L x=some (.pointer (some ⟨g,j,none⟩))) (hv:r.xs[j]? =some v):
  Yl P n B w0 (.load t x) ty L R v:=by
 have Fm:(some ⟨g,j,none⟩:Option Addr)=pat (some ⟨g,0,none⟩) j:=by
  simp only[pat,jr,zY]
 exact AB hu hd hx Fm (hA▸rdR q hq) hv
theorem bA {x y:Operand} {t:TypeId} {j:Nat} {r:Row} {v:Value} {g:Nat} (q:Nat) (hq:R[q]? =some r) (li:r.ro=false) (hA:r.A=some ⟨g,0,none⟩) (ee:(P.info? t).map (·.size)=some 1) (hx:ev L x=some (.pointer (some ⟨g,j,none⟩))) (hy:ev L y=some v) (hv:v.cells.toList=[v]) (h1:v.oneCell'=true) (hj:j<r.xs.length):
  Ac P n B w0 (.store t x y) ty L R (λ_ R'=>R'=R.set q {r with xs:=r.xs.set j v}):=
 QQ q hq li hA ee hx (by simp only[pat,hA,jr,zY]) hy hv h1 hj
theorem aKu {t:TypeId} {v:Value} (h: ∀w,(Instr.build t #[]).run P w= .ok v w):Yl P n B w0 (.build t #[]) ty L R v:=by
 intro a w o ho _ hs _;simp[execOp,ho,h]
theorem GX {r0 r1:Row}: ∀ {R:List Row} {i:Nat},R[i]? =some r0->(r1::R.eraseIdx i).Perm (R.set i r1)
 |[],i,h=>by simp at h
 |q::R,0,_=> .refl _
 |q::R,i+1,h=>by
  have ih:(r1::R.eraseIdx i).Perm (R.set i r1):=GX (by simpa using h);exact(List.Perm.swap q r1 _).trans (ih.cons q)
theorem Ct.at {f:FuncId} {args:Array Value} {r0 r1:Row} {V:Value} (i:Nat) (hi:R[i]? =some r0) (h:Ct P f args B w0 (r0::R.eraseIdx i) (λv R'=>v=V/\R'=r1::R.eraseIdx i)):Ct P f args B w0 R (λv R'=>v=V/\R'=R.set i r1):=by
 intro w hw
 have Jp:Hp B w0 w (r0::R.eraseIdx i):=by
  have hp:=GX (r1:=r0) hi;have aw:i<R.length:=(dn.1 hi).1
  have e:R.set i r0=R:=by
   rw[<-(dn.1 hi).2];exact List.set_getElem_self aw
  rw[e] at hp;exact hw.perm hp.symm
 refine(h w Jp).mono ?_;rintro e w' ⟨v,R',rfl,hh,rfl,rfl⟩;exact⟨_,_,rfl,hh.perm (GX hi),rfl,rfl⟩
theorem dA {x y:Operand} {t u d:TypeId} {p:Option Addr} (ht:P.underlying t=some (.pointer d)) (hx:ev L x=some (.pointer p)) (hy:ev L y=some (.pointer none)):Yl P n B w0 (.binOp .eql t x y u) ty L R (.bool p.isNone):=by
 intro a w o ho _ hs _;simp[execOp,ho,binOp,eqGuard,hs.ev hx,hs.ev hy,FV t d p ht]
theorem aCi {x y:Operand} {t u d:TypeId} {p:Option Addr} (ht:P.underlying t=some (.pointer d)) (hx:ev L x=some (.pointer p)) (hy:ev L y=some (.pointer none)):Yl P n B w0 (.binOp .neq t x y u) ty L R (.bool (!p.isNone)):=by
 intro a w o ho _ hs _;simp[execOp,ho,binOp,eqGuard,hs.ev hx,hs.ev hy,FV t d p ht]
end
end Go.Eng
namespace Go.Eng
open Go Go.RowKit
def rdl (ls:List (List Int)) (i:Int):List Int:=ls.getD i.toNat []
theorem aMx {ls:List (List Int)} {i:Int} (h0:0<=i) (h:i<ls.length):ls.drop i.toNat=rdl ls i::ls.drop (i+1).toNat:=by
 have hl:i.toNat<ls.length:=G
 have e:(i+1).toNat=i.toNat+1:=G
 rw[e,jw hl];simp[rdl,af,av hl]
theorem aTw {ls:List (List Int)} {i:Int} (h0:0<=i) (h:i<ls.length):rdl ls i∈ls:=by
 have hl:i.toNat<ls.length:=G
 simp[rdl,af,av hl]
def SlW (k:IntKind) (w:World) (vals:List Value) (ls:List (List Int)):Prop:=vals.length=ls.length/\ ∀j:Nat,j<ls.length-> ∃(A:Option Addr) (c:Nat),vals[j]? =some (Value.slice A (ls.getD j []).length c)/\Rd w A (ls.getD j []).length c 1 (ints k (ls.getD j []))/\(∀x∈ls.getD j [],(Lit.int k x).wf=true)/\(ls.getD j []).length<=140737488355327
theorem SlW.at {k:IntKind} {w:World} {vals:List Value} {ls:List (List Int)} (h:SlW k w vals ls) {i:Int} (h0:0<=i) (h1:i<ls.length): ∃(A:Option Addr) (c:Nat),vals[i.toNat]? =some (Value.slice A (rdl ls i).length c)/\Rd w A (rdl ls i).length c 1 (ints k (rdl ls i))/\(∀x∈rdl ls i,(Lit.int k x).wf=true)/\(rdl ls i).length<=140737488355327:=
 h.2 i.toNat G
theorem SlW.c {k:IntKind} {w w':World} {R:List Row} {vals:List Value} {ls:List (List Int)} (h:SlW k w vals ls) (hw:Hp w.heap.size w w' R):SlW k w' vals ls:=
 ⟨h.1,λj hj=>by
  obtain⟨A,c,h1,h2,h3⟩:=h.2 j hj
  exact⟨A,c,h1,h2.below hw.below,h3⟩⟩
theorem jA (k:IntKind) (w:World):SlW k w [] []:=⟨rfl,λj hj=>by simp at hj⟩
section
variable {P:Program} {n:Nd} {B:Nat} {w0:World} {L:Env} {R:List Row} {ty:TypeId}
theorem fQ {x y:Operand} {t e sz:Nat} {v:Value} {xs vs:List Value} {g:Nat} (i:Nat) (hi:R[i]? =some ⟨e,sz,some ⟨g,0,none⟩,1,1,xs,false⟩) (ee:(P.info? t).map (·.size)=some sz) (hx:ev L x=some (.pointer (some ⟨g,0,none⟩))) (hy:ev L y=some v) (hv:v.cells.toList=vs) (h1: ∀v∈vs,v.oneCell'=true) (hl:vs.length=sz):
  Ac P n B w0 (.store t x y) ty L R (λ_ R'=>R'=R.set i ⟨e,sz,some ⟨g,0,none⟩,1,1,vs,false⟩):=by
 intro a w o K Q ho xo hs hp hk
 have Gk:xs.length=sz:=by
  have:=(Row.rd (hp.own _ (ek hi))).len;simpa using this
 have:=JY (P:=P) (n:=n) (B:=B) (w0:=w0) (ty:=ty) (j:=0) i hi rfl rfl (vs:=vs) (by rw[ee,hl]) hx (by simp[pat,Addr.add]) hy hv h1 (by simp only;omega);simp only[xk,jb,ni,hl,<-Gk,Gz,jo] at this;rw[Gk] at this;exact this a w o K Q ho xo hs hp hk
end
def prs (l:List (Int × Int)):List Value:=l.flatMap λp=>[.int .i64 p.1, .int .i64 p.2]
def rdp (l:List (Int × Int)) (i:Int):Int × Int:=l.getD i.toNat (0,0)
theorem kS: ∀l:List (Int × Int),(prs l).length=l.length*2
 |[]=>rfl
 |p::l=>by
  have:=kS l;unfold prs at*;rw[Ck,ah,this];simp;omega
theorem GN (l m:List (Int × Int)):prs (l++m)=prs l++prs m:=by simp[prs]
theorem TK: ∀(l:List (Int × Int)) (i:Nat),(prs l).drop (i*2)=prs (l.drop i)
 |l,0=>cD
 |[],i+1=>by simp[prs]
 |p::l,i+1=>by
  have:=TK l i;have e:(i+1)*2=i*2+1+1:=G
  rw[e];show((Value.int .i64 p.1::Value.int .i64 p.2::prs l).drop (i*2+1+1))=_;rw[Bg,Bg,this];rfl
theorem aMw {l:List (Int × Int)} {i:Int} (h0:0<=i) (h:i<l.length):l.drop i.toNat=rdp l i::l.drop (i+1).toNat:=by
 have hl:i.toNat<l.length:=G
 have e:(i+1).toNat=i.toNat+1:=G
 rw[e,jw hl];simp[rdp,af,av hl]
theorem aZq {l:List (Int × Int)} {i:Int} (h0:0<=i) (h:i<l.length):((prs l).drop (i.toNat*2)).take 2=[.int .i64 (rdp l i).1, .int .i64 (rdp l i).2]:=by
 rw[TK,aMw h0 h];rfl
theorem aUe (l:List (Int × Int)): ∀v∈prs l,v.oneCell'=true:=by
 intro v hv;unfold prs at hv;obtain⟨p,_,hp⟩:=He.1 hv;simp at hp;rcases hp with rfl|rfl<;>rfl
section
variable {P:Program} {n:Nd} {B:Nat} {w0:World} {L:Env} {R:List Row} {ty:TypeId}
theorem EW {x:Operand} {t:TypeId} {d:TypeDesc} {A:Option Addr} {m c:Nat} {l:List (Int × Int)} {i:Int} (hu:P.underlying t=some d) (hd:BZ d=true) (ee:(P.info? t).map (·.size)=some 2) (hx:ev L x=some (.pointer (pat A (i.toNat*2)))) (hr:RdC B w0 R A m c 2 (prs l)) (h0:0<=i:=by omega) (h1:i<l.length:=by omega):
  Yl P n B w0 (.load t x) ty L R (.agg #[.int .i64 (rdp l i).1, .int .i64 (rdp l i).2]):=by
 have:=aCj (P:=P) (n:=n) (B:=B) (w0:=w0) (R:=R) (ty:=ty) hu hd ee hx rfl hr (by rw[kS];omega) G;rwa[aZq h0 h1] at this
theorem CB {s x:Operand} {t e:TypeId} {z:Value} {bytes m p c c2:Nat} {A A2:Option Addr} {l news:List (Int × Int)} (i:Nat) (hi:R[i]? =some ⟨e,2,A,p,c,prs l,false⟩) (ht:P.underlying t=some (.slice e)) (co:(P.info? e).map (λi=>(i.zero,i.size,i.bytes))=some (some z,2,bytes)) (hz:z.cells.size=2) (a7:Nat.blt 0 bytes=true)
  (hs:ev L s=some (.slice A p c)) (hx:ev L x=some (.slice A2 m c2)) (ie:RdC B w0 R A2 m c2 2 (prs news)) (gs:(p+m)*bytes<=140737488355328):
  Ac P n B w0 (.call {callee:= .builtin .append,args:= #[s,x],argTypes:= #[t,t]}) ty L R (λv R'=> ∃A' c',v= .slice A' (p+m) c'/\R'=R.set i ⟨e,2,A',p+m,c',prs (l++news),false⟩):=by
 have:=rJ (P:=P) (n:=n) (B:=B) (w0:=w0) (ty:=ty) i hi rfl ht co hz rfl a7 hs hx ie (aUe news) gs;simp only[<-GN] at this;exact this
theorem aSf {t e:TypeId} {x:Operand} {a b:Int} (ht:P.underlying t=some (.slice e)) (co:(P.info? e).map (λi=>(i.zero,i.size))=some (some (.agg #[.int .i64 0, .int .i64 0]),2)) (hx:ev L x=some (.agg #[.int .i64 a, .int .i64 b])):
  Ac P n B w0 (.buildSlice t 1 #[(0,x)]) ty L R (λv R'=> ∃g,v= .slice (some ⟨g,0,none⟩) 1 1/\R'=⟨e,2,some ⟨g,0,none⟩,1,1,prs [(a,b)],false⟩::R):=by
 have hv:evp L [(0,x)]=some [(0, .agg #[.int .i64 a, .int .i64 b])]:=by simp[evp,hx]
 exact nZ (P:=P) (n:=n) (B:=B) (w0:=w0) (L:=L) (R:=R) (ty:=ty) (len:=1) (ps:=[(0,x)]) (cells:= #[.int .i64 a, .int .i64 b]) ht co hv cC cC cA (by rfl)
theorem aNh {w:World} {m c:Nat} {l:List (Int × Int)} (h:Rd w none m c 2 (prs l)):l=[]:=by
 cases l with
 |nil=>rfl
 |cons p l=>
  obtain⟨a,ha,_⟩:=h.at_ 0 (.int .i64 p.1) rfl;cases ha
theorem Hp.nilP {w:World} (h:Hp B w0 w R) (e:TypeId):Hp B w0 w (⟨e,2,none,0,0,prs [],false⟩::R):=h.nil e 2
theorem aK {x:Operand} {t:TypeId} {d:TypeDesc} {g j m c sz:Nat} {xs:List Value} {v:Value} (hr:RdC B w0 R (some ⟨g,0,none⟩) m c sz xs) (hu:P.underlying t=some d) (hd:BZ d=false) (hx:ev L x=some (.pointer (some ⟨g,j,none⟩))) (hv:xs[j]? =some v):Yl P n B w0 (.load t x) ty L R v:=
 AB hu hd hx (by simp only[pat,jr,zY]) hr hv
theorem dN {x:Operand} {t:TypeId} {d:TypeDesc} {g j st m c sz:Nat} {xs vs:List Value} (hr:RdC B w0 R (some ⟨g,0,none⟩) m c sz xs) (hu:P.underlying t=some d) (hd:BZ d=true) (ee:(P.info? t).map (·.size)=some st) (hx:ev L x=some (.pointer (some ⟨g,j,none⟩))) (hv:(xs.drop j).take st=vs) (hj:j+st<=xs.length) (u6:Nat.blt 0 st=true):Yl P n B w0 (.load t x) ty L R (.agg vs.toArray):=by
 have:=aCj (P:=P) (n:=n) (B:=B) (w0:=w0) (ty:=ty) hu hd ee hx (by simp only[pat,jr,zY]) hr hj (au u6);rwa[hv] at this
theorem dC {x ix:Operand} {t e:TypeId} {k:IntKind} {g j q N m c sz:Nat} {i:Int} {xs:List Value} (hr:RdC B w0 R (some ⟨g,0,none⟩) m c sz xs) (ht:P.underlying t=some (.array N e)) (hi:(P.info? e).map (·.size)=some 1) (hx:ev L x=some (.pointer (some ⟨g,j,none⟩))) (rm:ev L ix=some (.int k i)) (aw:j<xs.length) (h0:0<=i) (h1:i<N) (hq:j+i.toNat=q):
  Yl P n B w0 (.indexAddr t x ix) ty L R (.pointer (some ⟨g,q,none⟩)):=by
 subst hq
 have Fm:(some ⟨g,j,none⟩:Option Addr)=pat (some ⟨g,0,none⟩) j:=by
  simp only[pat,jr,zY]
 have:=EX (P:=P) (n:=n) (B:=B) (w0:=w0) (ty:=ty) ht hi hx Fm rm hr aw h0 h1;rw[qy] at this;simpa only[pat,jr,zY] using this
theorem dU {t:TypeId} {ps:List (Nat × Operand)} {vs:List (Nat × Value)} {v:Value} (hv:evp L ps=some vs) (h: ∀w,(Instr.build t vs.toArray).run P w= .ok v w):Yl P n B w0 (.build t ps.toArray) ty L R v:=by
 intro a w o ho _ hs _;have Kv:=hs.evp hv;simp[execOp,ho,Kv,h]
theorem aNg (l:List (Int × Int)) (i:Nat):(prs l).take (i*2)=prs (l.take i):=by
 have h:prs l=prs (l.take i)++prs (l.drop i):=by rw[<-GN,gq]
 have hl:=kS (l.take i);rw[ax] at hl;rw[h];by_cases hi:i<=l.length
 ·rw[Dv G,bn G]
 ·rw[uk G,show prs []=[] from rfl,jo,bn G]
theorem TA (k:Nat) (t e:TypeId) (A:Option Addr) (m c:Nat) (ht:P.underlying t=some (.slice e)) (w:World):(Op.equalIn (k+1) t (.slice A m c) (.slice none 0 0)).run P w= .ok A.isNone w:=by
 cases A<;>simp[Op.equalIn,lq ht]
theorem aGm (t e:TypeId) (A:Option Addr) (m c:Nat) (ht:P.underlying t=some (.slice e)) (w:World):(Op.equal t (.slice A m c) (.slice none 0 0)).run P w= .ok A.isNone w:=TA 9999 t e A m c ht w
theorem aCh {x y:Operand} {t u e:TypeId} {A:Option Addr} {m c:Nat} (ht:P.underlying t=some (.slice e)) (hx:ev L x=some (.slice A m c)) (hy:ev L y=some (.slice none 0 0)):Yl P n B w0 (.binOp .eql t x y u) ty L R (.bool A.isNone):=by
 intro a w o ho _ hs _;simp[execOp,ho,binOp,eqGuard,hs.ev hx,hs.ev hy,aGm t e A m c ht]
theorem aWu {t e:TypeId} (ht:P.underlying t=some (.slice e)) (co:(P.info? e).map (λi=>(i.zero,i.size))=some (some (.agg #[.int .i64 0, .int .i64 0]),2)):
  Ac P n B w0 (.buildSlice t 0 #[]) ty L R (λv R'=> ∃g,v= .slice (some ⟨g,0,none⟩) 0 0/\R'=⟨e,2,some ⟨g,0,none⟩,0,0,prs [],false⟩::R):=
 nZ (P:=P) (n:=n) (B:=B) (w0:=w0) (L:=L) (R:=R) (ty:=ty) (len:=0) (ps:=[]) (vs:=[]) (cells:= #[]) ht co rfl cC cC cA (by rfl)
theorem Hp.selR {w:World} {F F':List Row} (h:Hp B w0 w (F++R)) (is:List Nat) (hn:is.Nodup) (hR:is.map (λi=>F[i]?)=F'.map some):Hp B w0 w (F'++R):=by
 have hp:=pq.1 h.apart;have hF:Hp B w0 w F:=⟨h.below,h.base,λr hr=>h.own r (fw.2 (.inl hr)),hp.1,h.late⟩;have Qx:=hF.sel is hn hR
 have mem: ∀q∈F',q∈F:=by
  intro q hq;have h1:some q∈F'.map some:=il.2 ⟨q,hq,rfl⟩;rw[<-hR] at h1;obtain⟨i,_,hi⟩:=il.1 h1;exact ek hi
 refine⟨h.below,h.base,λr hr=> ?_,pq.2 ⟨Qx.apart,hp.2.1,λq hq r hr=>hp.2.2 q (mem q hq) r hr⟩,h.late⟩;rcases fw.1 hr with h1|h1
 ·exact h.own r (fw.2 (.inl (mem r h1)))
 ·exact h.own r (fw.2 (.inr h1))
end
end Go.Eng
namespace Go.Eng
open Go Go.RowKit Go.Proofs Go.Sort
theorem PL: ∀(l:List (Int × Int)) (t:Nat),t<l.length*2->(prs l)[t]? =some (if t%2=0 then .int .i64 (l.getD (t/2) (0,0)).1 else .int .i64 (l.getD (t/2) (0,0)).2)
 |[],t,h=>by simp at h
 |p::l,0,_=>rfl
 |p::l,1,_=>rfl
 |p::l,t+2,h=>by
  have ih:=PL l t (by simp only[dm] at h;omega);have e1:(t+2)%2=t%2:=G
  have e2:(t+2)/2=t/2+1:=G
  rw[e1,e2];show(Value.int .i64 p.1::Value.int .i64 p.2::prs l)[t+2]? =_;rw[Cc,Cc,ih];rfl
def encP {l:List (Int × Int)} (x: {p:Int × Int//p∈l}):List Value:=[.int .i64 x.1.1, .int .i64 x.1.2]
theorem NL {l:List (Int × Int)} [Inhabited {p:Int × Int//p∈l}] (d:Array {p:Int × Int//p∈l}):(flatK encP 2 d).toList=prs (d.toList.map Subtype.val):=by
 apply su;intro t;have hs:(flatK encP 2 d).size=d.size*2:=size_flatK _ _ _;by_cases h:t<d.size*2
 ·rw [PL _ t (by simpa using h),qh];have h2:t/2<d.size:=G
  have hg:(flatK encP 2 d)[t]? =some ((flatK encP 2 d)[t]!):=by
   rw[oq (by rw[hs];exact h),tq _ t (by rw[hs];exact h)]
  rw[hg,get_flatK encP 2 d t h];have e:d[t/2]! =d[t/2]:=tq d _ h2
  have e3:(d.toList.map Subtype.val).getD (t/2) (0,0)=d[t/2].1:=by
   simp[af,h2]
  rw[e,e3];rcases Nat.mod_two_eq_zero_or_one t with hm|hm
  ·rw[hm];rfl
  ·rw[hm];rfl
 ·rw[ll (by rw[jl,hs];omega),ll (by rw[kS];simp;omega)]
end Go.Eng
namespace Go.Pure
open Go Go.Eng
def orL:List Int->Int
 |[]=>0
 |a::l=>if a≠0 then a else orL l
theorem aZv {l:List Int} {k:Int} (h0:0<=k) (h:k<l.length) (hz:rd l k=0):orL (l.drop k.toNat)=orL (l.drop (k+1).toNat):=by
 rw[nV h0 h,orL,bu G]
theorem aUj {l:List Int} {k:Int} (h0:0<=k) (h:k<l.length) (hz:rd l k≠0):orL (l.drop k.toNat)=rd l k:=by
 rw[nV h0 h,orL,cu hz]
def ahd (ws:List (List Int)) (bs rs:List Int) (t:Int × Int) (h:Int):Int:=rd rs (rd bs t.1+(t.2+h)%((rdl ws t.1).length:Int))
def YF (ws:List (List Int)) (bs rs:List Int) (h:Int) (t u:Int × Int):Int:=
 orL [kD (ahd ws bs rs t 0) (ahd ws bs rs u 0),kD (ahd ws bs rs t h) (ahd ws bs rs u h),kD t.1 u.1,kD t.2 u.2]
def TOk (ws:List (List Int)) (bs:List Int) (N:Nat) (t:Int × Int):Prop:=(0<=t.1/\t.1<ws.length/\t.1<bs.length)/\(0<=t.2/\t.2<(rdl ws t.1).length/\t.2<=1000000)/\0<(rdl ws t.1).length/\(0<=rd bs t.1/\rd bs t.1+(rdl ws t.1).length<=N)
def gI (bs:List Int) (t:Int × Int):Int:=rd bs t.1+t.2
def CZ (ws:List (List Int)) (bs rs:List Int) (h:Int) (t u:Int × Int):Prop:=ahd ws bs rs t 0≠ahd ws bs rs u 0\/ahd ws bs rs t h≠ahd ws bs rs u h
instance (ws:List (List Int)) (bs rs:List Int) (h:Int) (t u:Int × Int):Decidable (CZ ws bs rs h t u):=by unfold CZ;infer_instance
def gK (ws:List (List Int)) (bs rs:List Int) (h:Int) (l:List (Int × Int)):Nat->Int
 |0=>0
 |i+1=>gK ws bs rs h l i+if CZ ws bs rs h (rdp l i) (rdp l (i+1:Nat)) then 1 else 0
theorem vS {ws:List (List Int)} {bs rs:List Int} {h:Int} {l:List (Int × Int)} {i:Int} (hi:0<i):gK ws bs rs h l i.toNat=gK ws bs rs h l (i-1).toNat+if CZ ws bs rs h (rdp l (i-1)) (rdp l i) then 1 else 0:=by
 obtain⟨k,rfl⟩: ∃k:Nat,i=(k:Int)+1:=⟨(i-1).toNat,G⟩;have e1:((k:Int)+1).toNat=k+1:=G
 have e2:((k:Int)+1-1)=k:=G
 rw[e1,e2,az];rfl
theorem eD {l:List Int} {i v:Int} (h0:0<=i) (h:i<l.length):rd (upd l i v) i=v:=by
 unfold rd upd;have hl:i.toNat<l.length:=G
 simp[af,hl]
theorem eP {l:List Int} {i j v:Int} (h0:0<=i) (hj:0<=j) (da:i≠j):rd (upd l i v) j=rd l j:=by
 unfold rd upd;have:i.toNat≠j.toNat:=G
 simp[af,this]
theorem lM {l:List (Int × Int)} {i:Int} (h0:0<=i) (h:i<l.length):rdp l i∈l:=by
 have hl:i.toNat<l.length:=G
 simp[rdp,af,av hl]
theorem aTv {l:List (Int × Int)} (hd:l.Nodup) {i j:Int} (h0:0<=i) (h:i<l.length) (g0:0<=j) (g:j<l.length) (e:rdp l i=rdp l j):i=j:=by
 have hi:i.toNat<l.length:=G
 have hj:j.toNat<l.length:=G
 simp only[rdp,af,av hi,av hj,mh] at e;rcases ja i j with aw|aw|aw
 ·exact absurd e (di.1 hd i.toNat j.toNat hi hj G)
 ·exact aw
 ·exact absurd e.symm (di.1 hd j.toNat i.toNat hj hi G)
theorem wV {bs rk:List Int} {l:List (Int × Int)} {f:Nat->Int} {i n:Int} (hnd:l.Nodup) (La: ∀t∈l,∀u∈l,gI bs t=gI bs u->t=u) (h0:0<=i) (hi:i<l.length) (db: ∀t∈l,0<=gI bs t) (aw:gI bs (rdp l i)<rk.length)
  (yp: ∀j:Nat,j<i->rd rk (gI bs (rdp l j))=f j) (hn:n=f i.toNat): ∀j:Nat,(j:Int)<i+1->rd (upd rk (rd bs (rdp l i).1+(rdp l i).2) n) (gI bs (rdp l j))=f j:=by
 intro j hj;have Mu:=db _ (lM h0 hi);by_cases b7:(j:Int)=i
 ·subst b7;rw[az] at hn;rw[<-hn];exact eD Mu aw
 ·have Fl:=db _ (lM (show(0:Int)<=j by omega) (show(j:Int)<l.length by omega));have da:gI bs (rdp l i)≠gI bs (rdp l j):=λe=>b7 (aTv hnd G G h0 hi (La _ (lM h0 hi) _ (lM G G) e).symm);have e:=eP (l:=rk) (v:=n) Mu Fl da;rw[<-yp j G];exact e
theorem zP {a b:Int}:kD a b<0↔a<b:=by unfold kD;split<;>(try split)<;>omega
theorem xW (ws:List (List Int)) (bs rs:List Int) (h:Int) (t u:Int × Int):YF ws bs rs h t u<0↔
  (ahd ws bs rs t 0<ahd ws bs rs u 0\/ahd ws bs rs t 0=ahd ws bs rs u 0/\(ahd ws bs rs t h<ahd ws bs rs u h\/ahd ws bs rs t h=ahd ws bs rs u h/\(t.1<u.1\/t.1=u.1/\t.2<u.2))):=by
 unfold YF;simp only[orL];generalize ahd ws bs rs t 0=a;generalize ahd ws bs rs u 0=b;generalize ahd ws bs rs t h=c;generalize ahd ws bs rs u h=d;by_cases h1:a=b
 ·have e1:kD a b=0:=jT.2 h1;by_cases h2:c=d
  ·have e2:kD c d=0:=jT.2 h2;by_cases h3:t.1=u.1
   ·have e3:kD t.1 u.1=0:=jT.2 h3;by_cases h4:t.2=u.2
    ·have e4:kD t.2 u.2=0:=jT.2 h4;simp[e1,e2,e3,e4];omega
    ·have e4:kD t.2 u.2≠0:=λe=>h4 (jT.1 e);simp only[e1,e2,e3,ne_eq,not_true,Cu,wu,Ii,e4,zP];omega
   ·have e3:kD t.1 u.1≠0:=λe=>h3 (jT.1 e);simp only[e1,e2,ne_eq,not_true,Cu,wu,Ii,e3,zP];omega
  ·have e2:kD c d≠0:=λe=>h2 (jT.1 e);simp only[e1,ne_eq,not_true,Cu,wu,Ii,e2,zP];omega
 ·have e1:kD a b≠0:=λe=>h1 (jT.1 e);simp only[ne_eq,e1,Cu,Ii,zP];omega
theorem aLk (ws:List (List Int)) (bs rs:List Int) (h:Int):Go.Sort.SWO (Go.Proofs.ltOf (YF ws bs rs h)):=by
 refine⟨λx=> ?_,λx y z h1 h2=> ?_,λx y z h1 h2=> ?_⟩
 ·simp only[Go.Proofs.ltOf,uf,xW];omega
 ·simp only[Go.Proofs.ltOf,yz,xW] at*;omega
 ·simp only[Go.Proofs.ltOf,uf,xW] at*;omega
end Go.Pure
namespace Go.Pure
open Go Go.Eng
def mO (ws:List (List Int)) (k:Nat):Nat:=((ws.take k).flatten).length
def qE (ws:List (List Int)) (k:Nat):List Int:=(List.range k).map λi=>(mO ws i:Int)
def turnsOf (w:Int) (j:Nat):List (Int × Int):=(List.range j).map λi:Nat=>(w,(i:Int))
def iI (ws:List (List Int)):Nat->List (Int × Int)
 |0=>[]
 |k+1=>iI ws k++turnsOf k (rdl ws k).length
theorem OU (w:Int) {j:Int} (h:0<=j):turnsOf w (j+1).toNat=turnsOf w j.toNat++[(w,j)]:=by
 obtain⟨j,rfl⟩: ∃m:Nat,j=m:=⟨j.toNat,G⟩;rw[show((j:Int)+1).toNat=j+1 by omega,az];unfold turnsOf;rw[yo,jh];rfl
theorem RP (w:Int) (j:Nat):(turnsOf w j).length=j:=by simp[turnsOf]
theorem iM {ws:List (List Int)} {k:Int} (h0:0<=k) (h:k<ws.length):(ws.take (k+1).toNat).flatten=(ws.take k.toNat).flatten++rdl ws k:=by
 rw[show ws.take (k+1).toNat=ws.take k.toNat++[rdl ws k] from ?_]
 ·simp
 ·have hl:k.toNat<ws.length:=G
  rw[show(k+1).toNat=k.toNat+1 by omega,qp,av hl];simp[rdl,af,av hl]
theorem kY {ws:List (List Int)} {k:Int} (h0:0<=k) (h:k<ws.length):mO ws (k+1).toNat=mO ws k.toNat+(rdl ws k).length:=by
 unfold mO;rw[iM h0 h,ah]
theorem aDw (ws:List (List Int)) (k:Nat):mO ws k<=ws.flatten.length:=by
 unfold mO;have:=gq k ws
 calc ((ws.take k).flatten).length<=((ws.take k).flatten).length+((ws.drop k).flatten).length:=Bb _ _
  _=((ws.take k++ws.drop k).flatten).length:=by rw[ow,ah]
  _=_:=by rw[this]
theorem aBs {ws:List (List Int)} {k:Int} (h0:0<=k):qE ws (k+1).toNat=qE ws k.toNat++[(mO ws k.toNat:Int)]:=by
 rw[show(k+1).toNat=k.toNat+1 by omega];unfold qE;rw[yo,jh];rfl
theorem OA (ws:List (List Int)) (k:Nat):(qE ws k).length=k:=by simp[qE]
theorem YD {ws:List (List Int)} {k:Int} (h0:0<=k):iI ws (k+1).toNat=iI ws k.toNat++turnsOf k (rdl ws k).length:=by
 obtain⟨k,rfl⟩: ∃m:Nat,k=m:=⟨k.toNat,G⟩;rw[show((k:Int)+1).toNat=k+1 by omega,az];rfl
theorem AJ (ws:List (List Int)): ∀k:Nat,k<=ws.length->(iI ws k).length=mO ws k
 |0,_=>rfl
 |k+1,h=>by
  have ih:=AJ ws k G;have:=kY (ws:=ws) (k:=k) G G;rw[show((k:Int)+1).toNat=k+1 by omega,az] at this;show(iI ws k++turnsOf k (rdl ws k).length).length=_;rw[ah,ih,RP,this]
end Go.Pure
namespace Go.Pure
open Go Go.Eng
variable {H:Nat} {h:Int} {ws:List (List Int)} {bs rs:List Int}
def tw (ws:List (List Int)) (t:Int × Int) (j:Nat):Int:=(rdl ws t.1).getD ((t.2.toNat+j)%(rdl ws t.1).length) 0
def TV (ws:List (List Int)) (t:Int × Int):Prop:=0<=t.1/\t.1<ws.length/\0<=t.2/\t.2<(rdl ws t.1).length
def LtH (H:Nat) (U V:Nat->Int):Prop:= ∃k,k<H/\(∀i,i<k->U i=V i)/\U k<V k
def EqH (H:Nat) (U V:Nat->Int):Prop:= ∀i,i<H->U i=V i
theorem EqH.symm {U V:Nat->Int} (h:EqH H U V):EqH H V U:=λi hi=>(h i hi).symm
theorem EqH.trans {U V W:Nat->Int} (h:EqH H U V) (h':EqH H V W):EqH H U W:=λi hi=>(h i hi).trans (h' i hi)
theorem LtH.not_eq {U V:Nat->Int} (h:LtH H U V): ¬EqH H U V:=λe=>by
 obtain⟨k,hk,_,hl⟩:=h;have:=e k hk;omega
theorem LtH.asymm {U V:Nat->Int} (h:LtH H U V): ¬LtH H V U:=by
 obtain⟨k,hk,h1,hl⟩:=h;rintro⟨m,hm,h2,me⟩;by_cases a:k<m
 ·have:=h2 k a;omega
 ·by_cases b:m<k
  ·have:=h1 m b;omega
  ·have:k=m:=G
   subst this;omega
theorem LtH.trans {U V W:Nat->Int} (h:LtH H U V) (h':LtH H V W):LtH H U W:=by
 obtain⟨k,hk,h1,hl⟩:=h;obtain⟨m,hm,h2,me⟩:=h';by_cases a:k<m
 ·exact⟨k,hk,λi hi=>(h1 i hi).trans (h2 i G),by rw[<-h2 k a];exact hl⟩
 ·by_cases b:m<k
  ·exact⟨m,hm,λi hi=>(h1 i G).trans (h2 i hi),by rw[h1 m b];exact me⟩
  ·have:k=m:=G
   subst this;exact⟨k,hk,λi hi=>(h1 i hi).trans (h2 i hi),G⟩
theorem LtH.eq_left {U V W:Nat->Int} (h:EqH H U V) (h':LtH H V W):LtH H U W:=by
 obtain⟨k,hk,h1,hl⟩:=h';exact⟨k,hk,λi hi=>(h i G).trans (h1 i hi),by rw[h k hk];exact hl⟩
theorem LtH.eq_right {U V W:Nat->Int} (h:LtH H U V) (h':EqH H V W):LtH H U W:=by
 obtain⟨k,hk,h1,hl⟩:=h;exact⟨k,hk,λi hi=>(h1 i hi).trans (h' i G),by rw[<-h' k hk];exact hl⟩
theorem tri (H:Nat) (U V:Nat->Int):LtH H U V\/EqH H U V\/LtH H V U:=by
 induction H with
 |zero=>exact .inr (.inl λi hi=>G)
 | succ H ih=>
  rcases ih with⟨k,hk,h⟩|h|⟨k,hk,h⟩
  ·exact .inl ⟨k,G,h⟩
  ·rcases ja (U H) (V H) with a|a|a
   ·exact .inl ⟨H,G,h,a⟩
   ·refine .inr (.inl λi hi=> ?_);by_cases e:i=H
    ·rw[e];exact a
    ·exact h i G
   ·exact .inr (.inr ⟨H,G,λi hi=>(h i hi).symm,a⟩)
  ·exact .inr (.inr ⟨k,G,h⟩)
theorem aEm {h:Nat} {U V:Nat->Int}:EqH (H+h) U V↔EqH H U V/\EqH h (λi=>U (i+H)) (λi=>V (i+H)):=by
 constructor
 ·exact λe=>⟨λi hi=>e i G,λi hi=>e (i+H) G⟩
 ·rintro ⟨a,b⟩ i hi;by_cases c:i<H
  ·exact a i c
  ·have:=b (i-H) G;simpa [qf (show H<=i by omega)] using this
theorem aVc {h:Nat} {U V:Nat->Int}:LtH (H+h) U V↔LtH H U V\/EqH H U V/\LtH h (λi=>U (i+H)) (λi=>V (i+H)):=by
 constructor
 ·rintro ⟨k,hk,h1,hl⟩;by_cases c:k<H
  ·exact .inl ⟨k,c,h1,hl⟩
  ·refine .inr ⟨λi hi=>h1 i G,k-H,G,λi hi=>h1 (i+H) G,?_⟩;simpa [qf (show H<=k by omega)] using hl
 ·rintro (⟨k,hk,h1,hl⟩|⟨e,k,hk,h1,hl⟩)
  ·exact⟨k,G,h1,hl⟩
  ·refine ⟨k+H,G,λi hi=> ?_,hl⟩;by_cases c:i<H
   ·exact e i c
   ·have:=h1 (i-H) G;simpa [qf (show H<=i by omega)] using this
def RK (ws:List (List Int)) (bs:List Int) (H:Nat) (rs:List Int):Prop:= ∀t u,TV ws t->TV ws u->(rd rs (gI bs t)<rd rs (gI bs u)↔LtH H (tw ws t) (tw ws u))/\(rd rs (gI bs t)=rd rs (gI bs u)↔EqH H (tw ws t) (tw ws u))
def sh (ws:List (List Int)) (t:Int × Int) (h:Int):Int × Int:=(t.1,(t.2+h)%((rdl ws t.1).length:Int))
theorem aCy {t:Int × Int} (ht:TV ws t):TV ws (sh ws t h):=by
 obtain⟨a,b,c,d⟩:=ht;exact⟨a,b,ym _ G,wz _ G⟩
theorem QO (ws:List (List Int)) (bs rs:List Int) (t:Int × Int) (h:Int):ahd ws bs rs t h=rd rs (gI bs (sh ws t h)):=rfl
theorem EH {t:Int × Int} (ht:TV ws t):sh ws t 0=t:=by
 obtain⟨a,b,c,d⟩:=ht;unfold sh;rw[yu,sj c d]
theorem LM {t:Int × Int} (ht:TV ws t) (hh:0<=h) (j:Nat):tw ws (sh ws t h) j=tw ws t (j+h.toNat):=by
 obtain⟨a,b,c,d⟩:=ht;unfold tw sh;simp only;congr 1;obtain⟨x,hx⟩: ∃m:Nat,t.2=m:=⟨t.2.toNat,G⟩;obtain⟨y,rfl⟩: ∃m:Nat,h=m:=⟨h.toNat,G⟩;rw[hx,az,az,show((x:Int)+(y:Int))=((x+y:Nat):Int) by omega,<-zi,az,Nat.mod_add_mod];congr 1;omega
def fJ (h:Int):Nat:=if h=0 then 1 else(2*h).toNat
def lX (h:Int):Nat:=(max 1 h).toNat
theorem aDz (hh:0<=h) (hr:RK ws bs (lX h) rs) {t u:Int × Int} (ht:TV ws t) (hu:TV ws u):
  (LtH (fJ h) (tw ws t) (tw ws u)↔(ahd ws bs rs t 0<ahd ws bs rs u 0\/ahd ws bs rs t 0=ahd ws bs rs u 0/\ahd ws bs rs t h<ahd ws bs rs u h))/\
  (EqH (fJ h) (tw ws t) (tw ws u)↔(ahd ws bs rs t 0=ahd ws bs rs u 0/\ahd ws bs rs t h=ahd ws bs rs u h)):=by
 have r0:=hr t u ht hu;have r1:=hr _ _ (aCy (h:=h) ht) (aCy (h:=h) hu);rw[QO,QO,QO,QO,EH ht,EH hu];by_cases h0:h=0
 ·subst h0;rw[EH ht,EH hu];have e:fJ 0=lX 0:=cC
  rw[e,<-r0.1,<-r0.2];constructor<;>omega
 ·have e1:lX h=h.toNat:=by unfold lX;omega
  have e2:fJ h=h.toNat+h.toNat:=by unfold fJ;rw[bu h0];omega
  rw[e1] at r0 r1;rw[e2,aVc,aEm,<-r0.1,<-r0.2];have f1:(λi=>tw ws t (i+h.toNat))=tw ws (sh ws t h):=funext λi=>(LM ht hh i).symm;have f2:(λi=>tw ws u (i+h.toNat))=tw ws (sh ws u h):=funext λi=>(LM hu hh i).symm;rw[f1,f2,<-r1.1,<-r1.2];exact⟨Iff.rfl,Iff.rfl⟩
def ltI (t u:Int × Int):Prop:=t.1<u.1\/t.1=u.1/\t.2<u.2
def aNt (ws:List (List Int)) (H:Nat) (t u:Int × Int):Prop:=LtH H (tw ws t) (tw ws u)\/EqH H (tw ws t) (tw ws u)/\ltI t u
theorem aLl (hh:0<=h) (hr:RK ws bs (lX h) rs) {t u:Int × Int} (ht:TV ws t) (hu:TV ws u):YF ws bs rs h t u<0↔aNt ws (fJ h) t u:=by
 obtain⟨a,b⟩:=aDz hh hr ht hu;rw[xW];unfold aNt ltI;rw[a,b];omega
theorem aOy (hh:0<=h) (hr:RK ws bs (lX h) rs) {t u:Int × Int} (ht:TV ws t) (hu:TV ws u):CZ ws bs rs h t u↔ ¬EqH (fJ h) (tw ws t) (tw ws u):=by
 obtain⟨_,b⟩:=aDz hh hr ht hu;rw[b];unfold CZ;omega
theorem tO: ∀ {a b:List Int},a.Perm b->a.Pairwise (· <= ·)->b.Pairwise (· <= ·)->a=b
 |[],b,h,_,_=>(List.nil_perm.1 h).symm
 |x::a,[],h,_,_=>absurd h.symm cD
 | x::a,y::b,h,ha,hb=>by
  have h1:y<=x:=by
   rcases jf.1 (h.mem_iff.1 (.head _)) with e|e
   ·omega
   ·exact(iv.1 hb).1 x e
  have h2:x<=y:=by
   rcases jf.1 (h.mem_iff.2 (.head _)) with e|e
   ·omega
   ·exact(iv.1 ha).1 y e
  have e:x=y:=G
  subst e;rw[tO ((List.perm_cons x).1 h) (iv.1 ha).2 (iv.1 hb).2]
theorem LtH.mono {H M:Nat} {U V:Nat->Int} (h:LtH H U V) (hm:H<=M):LtH M U V:=by
 obtain⟨k,hk,r⟩:=h;exact⟨k,G,r⟩
theorem EqH.mono {H M:Nat} {U V:Nat->Int} (h:EqH M U V) (hm:H<=M):EqH H U V:=λi hi=>h i G
structure Sorted (ws:List (List Int)) (M:Nat) (l:List (Int × Int)):Prop where
 tv: ∀t∈l,TV ws t
 nodup:l.Nodup
 pw:l.Pairwise λx y=> ¬aNt ws M y x
theorem nA {l:List (Int × Int)} {j:Nat} (h:j<l.length):rdp l j=l[j]:=by
 simp[rdp,af,av h]
theorem Sorted.le {ws:List (List Int)} {M:Nat} {l:List (Int × Int)} (s:Sorted ws M l) {i j:Nat} (na:i<j) (hj:j<l.length): ¬LtH M (tw ws (rdp l j)) (tw ws (rdp l i)):=by
 have:=di.1 s.pw i j G hj na;rw[nA hj,nA G];exact λh=>this (.inl h)
theorem Sorted.eq_between {ws:List (List Int)} {M:Nat} {l:List (Int × Int)} (s:Sorted ws M l) {i m j:Nat} (h1:i<=m) (h2:m<=j) (hj:j<l.length) (he:EqH M (tw ws (rdp l i)) (tw ws (rdp l j))):EqH M (tw ws (rdp l i)) (tw ws (rdp l m)):=by
 rcases Nat.eq_or_lt_of_le h1 with rfl|h1
 ·exact λ_ _=>rfl
 rcases Nat.eq_or_lt_of_le h2 with rfl|h2
 ·exact he
 rcases tri M (tw ws (rdp l i)) (tw ws (rdp l m)) with a|a|a
 ·exact absurd (LtH.eq_left he.symm a) (s.le h2 hj)
 ·exact a
 ·exact absurd a (s.le h1 G)
section
variable {ws:List (List Int)} {bs rs:List Int} {h:Int} {l:List (Int × Int)}
theorem JK (hh:0<=h) (hr:RK ws bs (lX h) rs) (s:Sorted ws (fJ h) l) {j:Nat} (hj:j+1<l.length):
  (EqH (fJ h) (tw ws (rdp l j)) (tw ws (rdp l (j+1:Nat)))/\gK ws bs rs h l (j+1)=gK ws bs rs h l j)\/(¬EqH (fJ h) (tw ws (rdp l j)) (tw ws (rdp l (j+1:Nat)))/\gK ws bs rs h l (j+1)=gK ws bs rs h l j+1):=by
 have ht:=s.tv _ (lM (l:=l) (i:=(j:Int)) G G);have hu:=s.tv _ (lM (l:=l) (i:=((j+1:Nat):Int)) G G);have hk:=aOy hh hr ht hu;show _/\gK ws bs rs h l j+(if CZ ws bs rs h (rdp l j) (rdp l (j+1:Nat)) then 1 else 0)=_\/_;by_cases e:EqH (fJ h) (tw ws (rdp l j)) (tw ws (rdp l (j+1:Nat)))
 ·exact .inl ⟨e,by rw[bu (λk=>hk.1 k e),yu]⟩
 ·refine .inr ⟨e,?_⟩;show gK ws bs rs h l j+(if CZ ws bs rs h (rdp l j) (rdp l (j+1:Nat)) then 1 else 0)=_;rw[cu (hk.2 e)]
theorem JL (hh:0<=h) (hr:RK ws bs (lX h) rs) (s:Sorted ws (fJ h) l) {i:Nat}: ∀d,i+d<l.length->gK ws bs rs h l i<=gK ws bs rs h l (i+d)/\(gK ws bs rs h l i=gK ws bs rs h l (i+d)↔EqH (fJ h) (tw ws (rdp l i)) (tw ws (rdp l (i+d:Nat))))
 |0,_=>⟨ky _,⟨λ_ _ _=>rfl,λ_=>rfl⟩⟩
 | d+1,hd=>by
  obtain⟨a,b⟩:=JL (i:=i) hh hr s d G;rcases JK hh hr s (j:=i+d) hd with⟨e,c⟩|⟨e,c⟩
  ·have c':gK ws bs rs h l (i+(d+1))=gK ws bs rs h l (i+d):=c;rw[c'];refine⟨a,b.trans ⟨λx=>x.trans e,λx=>x.trans e.symm⟩⟩
  ·have c':gK ws bs rs h l (i+(d+1))=gK ws bs rs h l (i+d)+1:=c;rw[c'];refine⟨G,⟨λx=>G,λx=>absurd ?_ e⟩⟩;have y:=s.eq_between (m:=i+d) G G hd x;exact y.symm.trans x
theorem aRd (hh:0<=h) (hr:RK ws bs (lX h) rs) (s:Sorted ws (fJ h) l) {i j:Nat} (hi:i<l.length) (hj:j<l.length):
  (gK ws bs rs h l i<gK ws bs rs h l j↔LtH (fJ h) (tw ws (rdp l i)) (tw ws (rdp l j)))/\(gK ws bs rs h l i=gK ws bs rs h l j↔EqH (fJ h) (tw ws (rdp l i)) (tw ws (rdp l j))):=by
 rcases wo i j with aw|rfl|aw
 ·obtain ⟨d,rfl⟩: ∃d,j=i+d:=⟨j-i,G⟩;obtain⟨a,b⟩:=JL (i:=i) hh hr s d hj;refine⟨?_,b⟩;constructor
  ·intro x;rcases tri (fJ h) (tw ws (rdp l i)) (tw ws (rdp l (i+d:Nat))) with y|y|y
   ·exact y
   ·have:=b.2 y;omega
   ·exact absurd y (s.le aw hj)
  ·intro x;have:gK ws bs rs h l i≠gK ws bs rs h l (i+d):=λe=>x.not_eq (b.1 e);omega
 ·exact⟨⟨λx=>G,λx=>absurd x x.asymm⟩,⟨λ_ _ _=>rfl,λ_=>rfl⟩⟩
 ·obtain ⟨d,rfl⟩: ∃d,i=j+d:=⟨i-j,G⟩;obtain⟨a,b⟩:=JL (i:=j) hh hr s d hi;refine⟨⟨λx=>G,λx=>absurd x (s.le aw hi)⟩,⟨λx=>(b.1 x.symm).symm,λx=>(b.2 x.symm).symm⟩⟩
theorem aTq (hh:0<=h) (hr:RK ws bs (lX h) rs) (s:Sorted ws (fJ h) l) (iz: ∀t,TV ws t->t∈l) {rk:List Int} (yp: ∀j:Nat,j<l.length->rd rk (gI bs (rdp l j))=gK ws bs rs h l j):RK ws bs (fJ h) rk:=by
 intro t u ht hu;obtain⟨i,hi,rfl⟩:=gz.1 (iz t ht);obtain⟨j,hj,rfl⟩:=gz.1 (iz u hu);rw[<-nA hi,<-nA hj,yp i hi,yp j hj];exact aRd hh hr s hi hj
structure Steps (bs rs:List Int) (lo:List (Int × Int)) (w:Int):Prop where
 zero:0<lo.length->rd rs (gI bs (rdp lo (0:Nat)))=0
 step: ∀j:Nat,j+1<lo.length->rd rs (gI bs (rdp lo (j+1:Nat)))=rd rs (gI bs (rdp lo j))\/rd rs (gI bs (rdp lo (j+1:Nat)))=rd rs (gI bs (rdp lo j))+1
 last:0<lo.length->rd rs (gI bs (rdp lo ((lo.length-1:Nat):Int)))=w
theorem YH (hh:0<=h) (hr:RK ws bs (lX h) rs) (s:Sorted ws (fJ h) l) {rk:List Int} (yp: ∀j:Nat,j<l.length->rd rk (gI bs (rdp l j))=gK ws bs rs h l j):Steps bs rk l (gK ws bs rs h l (l.length-1)):=by
 refine⟨λh0=>by rw[yp 0 h0];rfl,λj hj=> ?_,λh0=>yp _ G⟩;rw[yp _ hj,yp j G];rcases JK hh hr s hj with⟨_,e⟩|⟨_,e⟩
 ·exact .inl e
 ·exact .inr e
theorem IL {f:Int × Int->Int} {l:List (Int × Int)} (h: ∀j:Nat,j+1<l.length->f (rdp l j)<=f (rdp l (j+1:Nat))):(l.map f).Pairwise (· <= ·):=by
 have mono: ∀d i:Nat,i+d<l.length->f (rdp l i)<=f (rdp l (i+d:Nat)):=by
  intro d
  induction d with
  |zero=>intro i _;exact ky _
  |succ d ih=>intro i hi;exact Hg (ih i G) (h (i+d) G)
 refine ik.2 (di.2 λi j hi hj na=> ?_);have:=mono (j-i) i G;rw[show i+(j-i)=j by omega,nA hi,nA hj] at this;exact this
theorem aUp (h0:0<h) (hr:RK ws bs (lX h) rs) (s:Sorted ws (fJ h) l) {lo:List (Int × Int)} {w:Int} (hp:l.Perm lo) (st:Steps bs rs lo w) (hw:gK ws bs rs h l (l.length-1)=w) {i j:Nat} (hi:i<l.length) (hj:j<l.length)
  (he:EqH (lX h) (tw ws (rdp l i)) (tw ws (rdp l j))):EqH (fJ h) (tw ws (rdp l i)) (tw ws (rdp l j)):=by
 have hh:0<=h:=G
 have Mi:lX h<=fJ h:=by unfold lX fJ;rw[bu G];omega
 have hlen:=hp.length_eq
 let g:Int × Int->Int:=λt=>rd rs (gI bs t)
 have Nc: ∀j:Nat,j<l.length->TV ws (rdp l j):=λj hj=>s.tv _ (lM G G)
 have ga:(l.map g).Pairwise (· <= ·):=IL λj hj=>by
  have hn:=s.le (i:=j) (j:=j+1) G hj;have:=(hr _ _ (Nc (j+1) hj) (Nc j G)).1;have Rq: ¬rd rs (gI bs (rdp l (j+1:Nat)))<rd rs (gI bs (rdp l j)):=λx=>hn ((this.1 x).mono Mi);show rd rs (gI bs (rdp l j))<=rd rs (gI bs (rdp l (j+1:Nat)));omega
 have gb:(lo.map g).Pairwise (· <= ·):=IL λj hj=>by
  show rd rs (gI bs (rdp lo j))<=rd rs (gI bs (rdp lo (j+1:Nat)));rcases st.step j hj with e|e<;>omega
 have b6:=tO (hp.map g) ga gb
 have gj: ∀j:Nat,j<l.length->g (rdp l j)=g (rdp lo j):=λj hj=>by
  have h2:j<lo.length:=G
  have:=bz (λq=>q[j]?) b6;simp only[qo,av hj,av h2,jr,lm] at this;rw[nA hj,nA h2];exact this
 have key: ∀d k:Nat,k+d<l.length->gK ws bs rs h l k-g (rdp l k)<=gK ws bs rs h l (k+d)-g (rdp l (k+d:Nat)):=by
  intro d
  induction d with
  |zero=>intro k _;exact ky _
  | succ d ih=>
   intro k hk;refine Hg (ih k G) ?_;have e1:=gj (k+d) G;have e2:=gj (k+(d+1)) hk;have ee:=st.step (k+d) G;have hg:g (rdp lo (k+(d+1):Nat))=g (rdp lo (k+d:Nat))\/g (rdp lo (k+(d+1):Nat))=g (rdp lo (k+d:Nat))+1:=ee;rcases JK hh hr s (j:=k+d) hk with⟨e,c⟩|⟨e,c⟩
   ·have c':gK ws bs rs h l (k+(d+1))=gK ws bs rs h l (k+d):=c;have:=(hr _ _ (Nc (k+d) G) (Nc (k+d+1) hk)).2.2 (e.mono Mi);have Yw:g (rdp l (k+d:Nat))=g (rdp l (k+(d+1):Nat)):=this;omega
   ·have c':gK ws bs rs h l (k+(d+1))=gK ws bs rs h l (k+d)+1:=c;omega
 have Np: ∀k:Nat,k<l.length->gK ws bs rs h l k=g (rdp l k):=by
  intro k hk;have db:0<l.length:=G
  have a:=key k 0 G;have b:=key (l.length-1-k) k G;rw[ni] at a;rw[show k+(l.length-1-k)=l.length-1 by omega,hw] at b;have z:=gj 0 db;have z':g (rdp lo (0:Nat))=0:=st.zero G;have y:=gj (l.length-1) G;have y':=st.last G;rw[<-hlen] at y';have y'':g (rdp lo ((l.length-1:Nat):Int))=w:=y';have c0:gK ws bs rs h l 0=0:=rfl;omega
 have e1:=(hr _ _ (Nc i hi) (Nc j hj)).2.2 he;refine(aRd hh hr s hi hj).2.1 ?_;rw[Np i hi,Np j hj];exact e1
end
def Lyn (f:Nat->Int) (p:Nat):Prop:=0<p/\ ∀r,0<r->r<p-> ∃d,r+d<p/\(∀e,e<d->f e=f (r+e))/\f d<f (r+d)
def uW (f:Nat->Int) (p j:Nat):Prop:= ∀i,i+p<j->f (i+p)=f i
theorem uW.mod {f:Nat->Int} {p j:Nat} (hp:0<p) (h:uW f p j): ∀i,i<j->f i=f (i%p):=by
 intro i
 induction i using Nat.strongRecOn with
 | ind i ih=>
  intro hi;rcases fe i p with a|a
  ·rw[lc a]
  ·have e:=h (i-p) G;rw[show i-p+p=i by omega] at e;rw[e,ih (i-p) G G];congr 1;rw[zq a]
theorem aQp {f:Nat->Int} {p j:Nat} (hL:Lyn f p) (mm:uW f p j) (Fl:p<=j) (aw:f (j-p)<f j):Lyn f (j+1):=by
 obtain⟨hp,hL⟩:=hL;have hm:=mm.mod hp;refine⟨G,λr h0 hr=> ?_⟩;have hjp:(j-p)%p=j%p:=(zq Fl).symm
 have hq: ∀e,r+e<j->r%p+e<p->f (r+e)=f (r%p+e):=by
  intro e h1 h2;rw[hm _ h1];congr 1;rw[Iu,lc (a:=e) G,lc h2]
 have Xh:f (j-p)=f (j%p):=by rw[hm (j-p) G,hjp]
 rcases dx (r%p) with hz|hz
 ·refine ⟨j-r,G,λe he=> ?_,?_⟩
  ·rw [hm e G,hm (r+e) G];congr 1;rw[Iu,hz,ni,Nat.mod_mod]
  ·rw [show r+(j-r)=j by omega]
   have e1:(j-r)%p=j%p:=by
    have:j=r+(j-r):=G
    conv=>rhs;rw[this,Iu,hz,ni,Nat.mod_mod]
   rcases fe 0 r with _|_
   ·rw[hm (j-r) G,e1,<-Xh];exact aw
   ·omega
 ·obtain ⟨d0,hd,b6,hl⟩:=hL (r%p) hz (yg _ hp);rcases fe (r+d0) j with a|a
  ·refine ⟨d0,G,λe he=> ?_,?_⟩
   ·rw[hq e G G];exact b6 e he
   ·rw[hq d0 a hd];exact hl
  ·refine ⟨j-r,G,λe he=> ?_,?_⟩
   ·rw[hq e G G];exact b6 e G
   ·rw [show r+(j-r)=j by omega]
    have e1:j%p=r%p+(j-r):=by
     have:j=r+(j-r):=G
     conv=>lhs;rw[this,Iu,lc (a:=j-r) G]
     exact lc G
    rw[e1] at Xh
    have:f (j-r)<=f (r%p+(j-r)):=by
     rcases fe (j-r) d0 with b|b
     ·exact Int.le_of_eq (b6 _ b)
     ·have:j-r=d0:=G
      rw[this];omega
    omega
theorem aJb {f:Nat->Int} {p j n:Nat} (hp:0<p) (mm:uW f p j) (Fl:p<=j) (vu:j<n->f j<f (j-p)) {m:Nat} (Ux:p<m) (hm:m<=n): ¬Lyn f m:=by
 rintro⟨_,h⟩;obtain⟨d,hd,b6,hl⟩:=h p hp Ux;rcases fe (p+d) j with a|a
 ·have:=mm d G;rw[wh p d,this] at hl;omega
 ·have hs:=vu G;rcases fe (j-p) d with b|b
  ·have:=b6 _ b;rw[show p+(j-p)=j by omega] at this;omega
  ·rw [show j-p=d by omega] at hs;rw[show p+d=j by omega] at hl;omega
def lt (s:List Int) (i:Nat):Int:=s.getD i 0
theorem nY: ∀(u v:List Int),v.length<u.length->(cmpL u v<0↔ ∃d,d<v.length/\(∀e,e<d->lt u e=lt v e)/\lt u d<lt v d)
 |[],v,h=>by simp at h
 |a::u,[],h=>by simp[cmpL]
 | a::u,b::v,h=>by
  have ih:=nY u v (by simpa using h);rw[cmpL];rcases ja a b with c|c|c
  ·rw [cu c];exact⟨λ_=>⟨0,cD,λe he=>G,c⟩,λ_=>G⟩
  ·subst c;rw[bu G,bu G,ih];constructor
   ·rintro ⟨d,h1,h2,h3⟩;refine⟨d+1,by simpa using h1,λe he=> ?_,h3⟩;cases e with
    |zero=>rfl
    |succ e=>exact h2 e G
   ·rintro ⟨d,h1,h2,h3⟩;cases d with
    |zero=>exact absurd h3 (by simp[lt])
    |succ d=>exact⟨d,by simpa using h1,λe he=>h2 (e+1) G,h3⟩
  ·rw [bu G,cu c];refine⟨λh=>G,?_⟩;rintro⟨d,h1,h2,h3⟩;cases d with
   |zero=>have:a<b:=h3;omega
   |succ d=>have:a=b:=h2 0 G;omega
theorem gY (s:List Int) (a i:Nat):lt (s.drop a) i=lt s (a+i):=by simp[lt,af]
theorem lt_take {s:List Int} {a i:Nat} (h:i<a):lt (s.take a) i=lt s i:=by simp[lt,af,h]
theorem IQ {s:List Int} {i:Int}:rd s i=lt s i.toNat:=rfl
def uY (s:List Int):Bool:= !s.isEmpty && (List.range s.length).all λr=>Nat.beq r 0||decide (cmpL s (s.drop r)<0)
theorem uX (s:List Int):uY s=true↔0<s.length/\ ∀r:Nat,0<r->r<s.length->cmpL s (s.drop r)<0:=by
 unfold uY;rw[qj,xc];have e:(!s.isEmpty)=true↔0<s.length:=by cases s<;>simp
 rw[e];refine and_congr_right λ_=>⟨λh r h0 hr=> ?_,λh r hr=> ?_⟩
 ·have:=h r (ji.2 hr);rw[zx,ii] at this;rcases this with a|a
  ·have:=ww a;omega
  ·exact a
 ·rw [zx,ii];rcases dx r with a|a
  ·left;subst a;rfl
  ·exact .inr (h r a (ji.1 hr))
theorem XM (s:List Int) (a p:Nat) (h:a+p<=s.length):uY ((s.drop a).take p)=true↔Lyn (λi=>lt s (a+i)) p:=by
 have hl:((s.drop a).take p).length=p:=by rw[ax,bg];omega
 rw[uX,hl];unfold Lyn;refine and_congr_right λ_=>forall_congr' λr=>forall_congr' λh0=>forall_congr' λhr=> ?_;rw[nY _ _ (by rw[bg,hl];omega),bg,hl];constructor
 ·rintro ⟨d,h1,h2,h3⟩;refine⟨d,G,λe he=> ?_,?_⟩
  ·have:=h2 e he;rwa[gY,lt_take G,lt_take G,gY,gY] at this
  ·rwa[gY,lt_take G,lt_take G,gY,gY] at h3
 ·rintro ⟨d,h1,h2,h3⟩;refine⟨d,G,λe he=> ?_,?_⟩
  ·rw[gY,lt_take G,lt_take G,gY,gY];exact h2 e he
  ·rw[gY,lt_take G,lt_take G,gY,gY];exact h3
def lU (s:List Int):Nat->Nat
 |0=>0
 |n+1=>if uY (s.take (n+1)) then n+1 else lU s n
theorem BK {s:List Int} {p:Nat} (h:uY (s.take p)=true): ∀n,p<=n->(∀m,p<m->m<=n->uY (s.take m)=false)->lU s n=p
 |0,hp,_=>by unfold lU;omega
 | n+1,hp,hn=>by
  unfold lU;rcases fe p (n+1) with a|a
  ·rw [hn (n+1) a (dh _)];simp only[uu,wu];exact BK h n G λm h1 h2=>hn m h1 G
  ·have:p=n+1:=G
   subst this;rw[h,cu rfl]
theorem aOi (s:List Int) (h:0<s.length):uY (s.take 1)=true:=by
 cases s with
 |nil=>simp at h
 |cons a s=>rfl
theorem pG {s:List Int} (h:0<s.length): ∀n,0<n->0<lU s n
 | n+1,_=>by
  unfold lU;split
  ·omega
  ·rename_i hh;cases n with
   |zero=>exact absurd (aOi s h) hh
   |succ n=>exact pG h (n+1) G
theorem NB (s:List Int): ∀n,lU s n<=n
 |0=>dh _
 |n+1=>by
  unfold lU;split
  ·omega
  ·have:=NB s n;omega
def KT:Nat->List Int->List Int
 |0,_=>[]
 |f+1,s=>if s.isEmpty then [] else(lU s s.length:Int)::KT f (s.drop (lU s s.length))
def fB (s:List Int):List Int:=KT s.length s
theorem NM: ∀(f g:Nat) (s:List Int),s.length<=f->s.length<=g->KT f s=KT g s
 |0,g,s,h,_=>by
  have:s=[]:=vg.1 G;subst this;cases g<;>rfl
 |f+1,0,s,_,h=>by
  have:s=[]:=vg.1 G;subst this;rfl
 | f+1,g+1,s,h1,h2=>by
  unfold KT;cases s with
  |nil=>rfl
  |cons a s=>
   simp only[Cm,uu,wu];have:=pG (s:=a::s) cD (a::s).length cD;rw[NM f g _ (by rw[bg];omega) (by rw[bg];omega)]
theorem VD {s:List Int} (h:s.length=0):fB s=[]:=by
 have:s=[]:=vg.1 h;subst this;rfl
theorem NN {s:List Int} (h:0<s.length):fB s=(lU s s.length:Int)::fB (s.drop (lU s s.length)):=by
 unfold fB;cases s with
 |nil=>simp at h
 |cons a s=>
  rw[show(a::s).length=s.length+1 from rfl,KT];simp only[Cm,uu,wu];have:=pG (s:=a::s) cD (a::s).length cD;rw[show s.length+1=(a::s).length from rfl];congr 1;exact NM _ _ _ (by rw[bg];simp only[dm] at*;omega) (dh _)
theorem aJc {s:List Int} {a p j:Nat} (hL:Lyn (λi=>lt s (a+i)) p) (mm:uW (λi=>lt s (a+i)) p j) (Fl:p<=j) (Rh:a+j<=s.length) (vu:a+j<s.length->lt s (a+j)<lt s (a+j-p)):lU (s.drop a) (s.drop a).length=p:=by
 have hp:=hL.1;refine BK ((XM s a p G).2 hL) _ (by rw[bg];omega) λm h1 h2=> ?_;rw[bg] at h2;cases hb:uY ((s.drop a).take m) with
 |false=>rfl
 |true=>
  exact absurd ((XM s a m G).1 hb) (aJb (f:=λi=>lt s (a+i)) (n:=s.length-a) hp mm Fl (λh=>by rw[show a+(j-p)=a+j-p by omega];exact vu G) h1 h2)
theorem Lyn.over {s:List Int} {a p j:Nat} (hL:Lyn (λi=>lt s (a+i)) p) (mm:uW (λi=>lt s (a+i)) p j) (Fl:p+p<=j):Lyn (λi=>lt s (a+p+i)) p:=by
 refine⟨hL.1,λr h0 hr=> ?_⟩;obtain⟨d,h1,h2,h3⟩:=hL.2 r h0 hr
 have e: ∀i,i<p->lt s (a+p+i)=lt s (a+i):=λi hi=>by
  have:=mm i G;rw[show a+p+i=a+(i+p) by omega];exact this
 refine⟨d,h1,λq hq=> ?_,?_⟩
 ·simp only at h2 ⊢;rw[e q G,e (r+q) G];exact h2 q hq
 ·simp only at h3 ⊢;rw[e d G,e (r+d) G];exact h3
theorem uW.over {s:List Int} {a p j:Nat} (mm:uW (λi=>lt s (a+i)) p j) (Fl:p<=j):uW (λi=>lt s (a+p+i)) p (j-p):=by
 intro i hi;have:=mm (i+p) G;simp only at this ⊢;rw[show a+p+(i+p)=a+(i+p+p) by omega,show a+p+i=a+(i+p) by omega];exact this
theorem aUy (f:Nat->Int):Lyn f 1:=⟨G,λr h0 hr=>G⟩
theorem aNk (f:Nat->Int):uW f 1 1:=λi hi=>G
theorem aHd (f:Nat->Int) (p:Nat):uW f p p:=λi hi=>G
theorem uW.snoc {f:Nat->Int} {p j:Nat} (h:uW f p j) (Fl:p<=j) (he:f j=f (j-p)):uW f p (j+1):=by
 intro i hi;rcases fe (i+p) j with a|a
 ·exact h i a
 ·rw[show i+p=j by omega,he];congr 1;omega
section
variable {s:List Int} {a i j b:Int}
def rQ (s:List Int) (a p:Int):Prop:=Lyn (λe=>lt s (a.toNat+e)) p.toNat
def rM (s:List Int) (a p n:Int):Prop:=uW (λe=>lt s (a.toNat+e)) p.toNat n.toNat
theorem DF:rQ s a (a+1-a)/\rM s a (a+1-a) (a+1-a):=by
 unfold rQ rM;rw[show(a+1-a).toNat=1 by omega];exact⟨aUy _,aNk _⟩
theorem VS (h0:0<=a) (s7:a<=i) (na:i<j) (hL:rQ s a (j-i)) (hP:rM s a (j-i) (j-a)) (aw:rd s i<rd s j):rQ s a (j+1-a)/\rM s a (j+1-a) (j+1-a):=by
 refine⟨?_,aHd _ _⟩;unfold rQ
 have:=aQp hL hP G (by
  show lt s (a.toNat+((j-a).toNat-(j-i).toNat))<lt s (a.toNat+(j-a).toNat);rw[show a.toNat+((j-a).toNat-(j-i).toNat)=i.toNat by omega,show a.toNat+(j-a).toNat=j.toNat by omega]
  exact aw)
 rwa[show(j-a).toNat+1=(j+1-a).toNat by omega] at this
theorem VT (h0:0<=a) (s7:a<=i) (na:i<j) (hL:rQ s a (j-i)) (hP:rM s a (j-i) (j-a)) (he:rd s i<=rd s j) (hn: ¬rd s i<rd s j):rQ s a (j+1-(i+1))/\rM s a (j+1-(i+1)) (j+1-a):=by
 rw[show j+1-(i+1)=j-i by omega];refine⟨hL,?_⟩;unfold rM;rw[show(j+1-a).toNat=(j-a).toNat+1 by omega];refine uW.snoc hP G ?_;show lt s (a.toNat+(j-a).toNat)=lt s (a.toNat+((j-a).toNat-(j-i).toNat));rw[show a.toNat+((j-a).toNat-(j-i).toNat)=i.toNat by omega,show a.toNat+(j-a).toNat=j.toNat by omega];have:rd s i=rd s j:=G
 exact this.symm
theorem aJa (h0:0<=b) (rj:b<=i) (na:i<j) (hj:j<=s.length) (hL:rQ s b (j-i)) (hP:rM s b (j-i) (j-b)) (vu: ¬(j<s.length/\rd s i<=rd s j)):fB (s.drop b.toNat)=(j-i)::fB (s.drop (b+(j-i)).toNat):=by
 have hlen:=aJc hL hP G G λh=>by
  rw[show b.toNat+(j-b).toNat=j.toNat by omega,show j.toNat-(j-i).toNat=i.toNat by omega];have: ¬rd s i<=rd s j:=λhh=>vu ⟨G,hh⟩;have:rd s j<rd s i:=G
  exact this
 have db:0<(s.drop b.toNat).length:=by rw[bg];omega
 rw[NN db,hlen,List.drop_drop];rw[show((j-i).toNat:Int)=j-i by omega,show b.toNat+(j-i).toNat=(b+(j-i)).toNat by omega]
theorem aAk (h0:0<=b) (na:i<j) (hL:rQ s b (j-i)) (hP:rM s b (j-i) (j-b)) (h:b+(j-i)<=i):rQ s (b+(j-i)) (j-i)/\rM s (b+(j-i)) (j-i) (j-(b+(j-i))):=by
 unfold rQ rM;rw[show(b+(j-i)).toNat=b.toNat+(j-i).toNat by omega,show(j-(b+(j-i))).toNat=(j-b).toNat-(j-i).toNat by omega];exact⟨Lyn.over hL hP G,uW.over hP G⟩
end
variable {s:List Int} {i d h n b k:Nat}
theorem aOk {M:Nat} {U V:Nat->Int}:LtH (M+1) U V↔U 0<V 0\/U 0=V 0/\LtH M (λi=>U (i+1)) (λi=>V (i+1)):=by
 constructor
 ·rintro ⟨k,hk,h1,h2⟩;cases k with
  |zero=>exact .inl h2
  |succ k=>exact .inr ⟨h1 0 G,k,G,λi hi=>h1 (i+1) G,h2⟩
 ·rintro (h|⟨e,k,hk,h1,h2⟩)
  ·exact⟨0,G,λi hi=>G,h⟩
  ·refine ⟨k+1,G,λi hi=> ?_,h2⟩;cases i with
   |zero=>exact e
   |succ i=>exact h1 i G
def pad (m:Int) (l:List Int) (d:Nat):Int:=if d<l.length then lt l d-m+1 else 0
theorem WP (m:Int): ∀(a b:List Int) (N:Nat),a.length<=N->b.length<=N->(∀x∈a,m<=x)->(∀x∈b,m<=x)->(cmpL a b<0↔LtH N (pad m a) (pad m b))
 |[],[],N,_,_,_,_=>by
  simp only[cmpL];refine⟨λh=>G,?_⟩;rintro⟨k,_,_,h⟩;simp[pad] at h
 |[],b::v,N,_,hb,_,mb=>by
  simp only[cmpL];have:=mb b cD;refine⟨λ_=>⟨0,by simp only[dm] at hb;omega,λi hi=>G,?_⟩,λ_=>G⟩;have e1:pad m [] 0=0:=rfl;have e2:pad m (b::v) 0=b-m+1:=by unfold pad;rw[cu cD];rfl
  rw[e1,e2];omega
 | a::u,[],N,_,_,ma,_=>by
  simp only[cmpL];refine⟨λh=>G,?_⟩;rintro⟨k,_,_,h⟩;exfalso;have e1:pad m [] k=0:=by unfold pad;rw[bu cD]
  rw[e1] at h;unfold pad at h;split at h
  ·rename_i hk
   have:m<=lt (a::u) k:=ma _ (by
    unfold lt;rw[af,av hk]
    exact kz _)
   omega
  ·omega
 |a::u,b::v,0,h,_,_,_=>by simp at h
 | a::u,b::v,N+1,ha,hb,ma,mb=>by
  have ih:=WP m u v N (by simpa using ha) (by simpa using hb) (λx hx=>ma x (dw _ hx)) (λx hx=>mb x (dw _ hx));have e0: ∀(x:Int) (xs:List Int),pad m (x::xs) 0=x-m+1:=λx xs=>by unfold pad;rw[cu cD];rfl
  have e1: ∀(x:Int) (xs:List Int),(λi=>pad m (x::xs) (i+1))=pad m xs:=λx xs=>by
   funext i;unfold pad;by_cases h:i<xs.length
   ·rw[cu (by simpa using h),cu h];rfl
   ·rw[bu (by simpa using h),bu h]
  rw[cmpL,aOk,e0,e0,e1,e1];rcases ja a b with c|c|c
  ·rw [cu c];exact⟨λ_=> .inl G,λ_=>G⟩
  ·subst c;rw[bu G,bu G,ih];exact⟨λh=> .inr ⟨rfl,h⟩,λh=>h.elim (λh=>G) λh=>h.2⟩
  ·rw [bu G,cu c];exact⟨λh=>G,λh=>h.elim (λh=>G) λh=>G⟩
def lo (s:List Int):Int:=s.foldr min 0
theorem aOn: ∀ {s:List Int} {x:Int},x∈s->lo s<=x
 | a::s,x,h=>by
  unfold lo;rw[List.foldr_cons];rcases jf.1 h with rfl|h
  ·exact Int.min_le_left _ _
  ·have:=aOn h;unfold lo at this;omega
def eu (s:List Int) (i d:Nat):Int:=if i+d<s.length then lt s (i+d)-lo s+1 else 0
theorem bAi (h:i<s.length):lt s i∈s:=by
 unfold lt;rw[af,av h];exact kz _
theorem qI (h:i+d<s.length):0<eu s i d:=by
 have:=aOn (bAi h);unfold eu;rw[cu h];omega
theorem iG (h:s.length<=i+d):eu s i d=0:=by unfold eu;rw[bu G]
theorem uN (s:List Int) (i b d:Nat):eu s (i+b) d=eu s i (b+d):=by unfold eu;rw[qd]
def rF (s:List Int) (i h:Nat):List Int:=(s.drop i).take h
theorem WE (hd:d<h):pad (lo s) (rF s i h) d=eu s i d:=by
 unfold pad eu rF;rw[ax,bg];by_cases c:i+d<s.length
 ·rw[cu G,cu c,lt_take hd,gY]
 ·rw[bu G,bu c]
theorem aHq {H:Nat} {U U' V V':Nat->Int} (h1: ∀i,i<H->U i=U' i) (h2: ∀i,i<H->V i=V' i):LtH H U V↔LtH H U' V':=by
 constructor
 ·rintro ⟨k,hk,a,b⟩;exact⟨k,hk,λi hi=>by rw[<-h1 i G,<-h2 i G];exact a i hi,by rw[<-h1 k hk,<-h2 k hk];exact b⟩
 ·rintro ⟨k,hk,a,b⟩;exact⟨k,hk,λi hi=>by rw[h1 i G,h2 i G];exact a i hi,by rw[h1 k hk,h2 k hk];exact b⟩
theorem uP (s:List Int) (i k h:Nat):cmpL (rF s i h) (rF s k h)<0↔LtH h (eu s i) (eu s k):=by
 have hm: ∀j,∀x∈rF s j h,lo s<=x:=λj x hx=>aOn (pg (lu hx));rw[WP (lo s) _ _ h (by unfold rF;rw[ax];omega) (by unfold rF;rw[ax];omega) (hm i) (hm k)];exact aHq (λd hd=>WE hd) λd hd=>WE hd
theorem aUz {U V:Nat->Int} (hb:b<=n):LtH (n+b) U V↔LtH n U V\/EqH n U V/\LtH n (λi=>U (b+i)) (λi=>V (b+i)):=by
 constructor
 ·rintro ⟨k,hk,h1,h2⟩;rcases fe k n with a|a
  ·exact .inl ⟨k,a,h1,h2⟩
  ·refine .inr ⟨λi hi=>h1 i G,k-b,G,λi hi=>h1 (b+i) G,?_⟩;show U (b+(k-b))<V (b+(k-b));rw[show b+(k-b)=k by omega];exact h2
 ·rintro (h|⟨e,k,hk,h1,h2⟩)
  ·exact h.mono G
  ·refine ⟨b+k,G,λi hi=> ?_,h2⟩;rcases fe i n with a|a
   ·exact e i a
   ·have:=h1 (i-b) G;simp only at this;rwa[show b+(i-b)=i by omega] at this
theorem aVs {U V:Nat->Int} (hb:b<=n):EqH (n+b) U V↔EqH n U V/\EqH n (λi=>U (b+i)) (λi=>V (b+i)):=by
 constructor
 ·exact λe=>⟨λi hi=>e i G,λi hi=>e (b+i) G⟩
 ·rintro ⟨e,f⟩ i hi;rcases fe i n with a|a
  ·exact e i a
  ·have:=f (i-b) G;simp only at this;rwa[show b+(i-b)=i by omega] at this
def rkS (s:List Int) (h i:Nat):Nat:=(List.range s.length).countP λk=>decide (cmpL (rF s k h) (rF s i h)<0)
theorem qK {α:Type} {p q:α->Bool}: ∀ {l:List α},(∀x∈l,p x=true->q x=true)->(∃x∈l,p x=false/\q x=true)->l.countP p<l.countP q
 |[],_,h=>by obtain⟨x,hx,_⟩:=h;cases hx
 | a::l,h,hx=>by
  have hl:l.countP p<=l.countP q:=Cy λx hx=>h x (dw _ hx);obtain⟨x,hm,h1,h2⟩:=hx;rw[List.countP_cons,List.countP_cons];rcases jf.1 hm with rfl|hm
  ·rw[h1,h2];simp;omega
  ·have ih:=qK (λy hy=>h y (dw _ hy)) ⟨x,hm,h1,h2⟩;have ha:=h a cD;cases hp:p a with
   |false=>cases q a<;>simp<;>omega
   |true=>rw[ha hp];simp;omega
theorem tY (hi:i<s.length):rkS s h i<rkS s h k↔LtH h (eu s i) (eu s k):=by
 constructor
 ·intro hr;rcases tri h (eu s i) (eu s k) with a|a|a
  ·exact a
  ·exfalso
   have:rkS s h k<=rkS s h i:=Cy λx _ hx=>by
    rw[ii,uP] at hx ⊢;exact hx.eq_right a.symm
   omega
  ·exfalso
   have:rkS s h k<=rkS s h i:=Cy λx _ hx=>by
    rw[ii,uP] at hx ⊢;exact hx.trans a
   omega
 ·intro hl;refine qK (λx _ hx=> ?_) ⟨i,ji.2 hi,?_,?_⟩
  ·rw [ii,uP] at hx ⊢;exact hx.trans hl
  ·rw [uf,uP];exact λh=>h.asymm h
  ·rw [ii,uP];exact hl
theorem aDf (hi:i<s.length) (hk:k<s.length):rkS s h i=rkS s h k↔EqH h (eu s i) (eu s k):=by
 constructor
 ·intro he;rcases tri h (eu s i) (eu s k) with a|a|a
  ·have:=(tY hi).2 a;omega
  ·exact a
  ·have:=(tY hk).2 a;omega
 ·intro he;rcases wo (rkS s h i) (rkS s h k) with a|a|a
  ·exact absurd he ((tY hi).1 a).not_eq
  ·exact a
  ·exact absurd he.symm ((tY hk).1 a).not_eq
def qR (s:List Int) (n i:Nat):Nat:=if i<s.length then rkS s n i+1 else 0
theorem yF (hn:0<n):qR s n i<qR s n k↔LtH n (eu s i) (eu s k):=by
 unfold qR;by_cases hi:i<s.length
 ·by_cases hk:k<s.length
  ·rw[cu hi,cu hk,<-tY hi];omega
  ·rw [cu hi,bu hk];refine⟨λh=>G,?_⟩;rintro⟨d,_,_,h2⟩;rw[iG (s:=s) (i:=k) G] at h2;rcases fe (i+d) s.length with a|a
   ·have:=qI a;omega
   ·rw[iG a] at h2;omega
 ·by_cases hk:k<s.length
  ·rw [bu hi,cu hk];refine⟨λ_=>⟨0,hn,λd hd=>G,?_⟩,λ_=>G⟩;rw[iG G];exact qI G
  ·rw [bu hi,bu hk];refine⟨λh=>G,?_⟩;rintro⟨d,_,_,h2⟩;rw[iG (s:=s) (i:=k) G,iG G] at h2;omega
theorem aTs (hn:0<n):qR s n i=qR s n k↔EqH n (eu s i) (eu s k):=by
 constructor
 ·intro he;rcases tri n (eu s i) (eu s k) with a|a|a
  ·have:=(yF hn).2 a;omega
  ·exact a
  ·have:=(yF hn).2 a;omega
 ·intro he;rcases wo (qR s n i) (qR s n k) with a|a|a
  ·exact absurd he ((yF hn).1 a).not_eq
  ·exact a
  ·exact absurd he.symm ((yF hn).1 a).not_eq
theorem YR (hn:0<n) (hb:b<=n) (hi:i<s.length) (hk:k<s.length):rkS s (n+b) i<rkS s (n+b) k↔rkS s n i<rkS s n k\/rkS s n i=rkS s n k/\qR s n (i+b)<qR s n (k+b):=by
 rw[tY hi,aUz hb,tY hi,aDf hi hk,yF hn];have e: ∀j,eu s (j+b)=λd=>eu s j (b+d):=λj=>funext λd=>uN s j b d;rw[e,e]
theorem FY (hn:0<n) (hb:b<=n) (hi:i<s.length) (hk:k<s.length):rkS s (n+b) i=rkS s (n+b) k↔rkS s n i=rkS s n k/\qR s n (i+b)=qR s n (k+b):=by
 rw[aDf hi hk,aVs hb,aDf hi hk,aTs hn];have e: ∀j,eu s (j+b)=λd=>eu s j (b+d):=λj=>funext λd=>uN s j b d;rw[e,e]
theorem aZj {i:Nat} {o:List Nat} (hp:o.Perm (List.range s.length)) (hs:o.Pairwise λx y=>rkS s h x<=rkS s h y) (hi:i<o.length) (Lf: ∀(hz:0<i),rkS s h (o[i-1]' G)≠rkS s h o[i]):rkS s h o[i]=i:=by
 have hm: ∀x∈o,x<s.length:=λx hx=>ji.1 (hp.subset hx)
 have e:rkS s h o[i]=o.countP λk=>decide (rkS s h k<rkS s h o[i]):=by
  have e1:rkS s h o[i]=o.countP λk=>decide (cmpL (rF s k h) (rF s o[i] h)<0):=by
   unfold rkS;rw[<-hp.countP_eq]
  rw[e1];refine Fs λx hx=> ?_;rw[ii,ii,uP,<-tY (hm x hx),<-e1]
 rw[e];have Vf:o=o.take i++o.drop i:=(gq i o).symm
 have h1:(o.take i).countP (λk=>decide (rkS s h k<rkS s h o[i]))=i:=by
  have:(o.take i).length=i:=by rw[ax];omega
  conv=>rhs;rw[<-this]
  rw[List.countP_eq_length];intro x hx;rw[ii];obtain⟨j,hj,rfl⟩:=gz.1 hx;rw[ax] at hj;rw[Ai];have hz:0<i:=G
  have Xx:=Lf hz;have mj:rkS s h (o[i-1]' G)<=rkS s h o[i]:=di.1 hs (i-1) i G hi G;rcases fe j (i-1) with a|a
  ·have:=di.1 hs j (i-1) G G a;omega
  ·have:j=i-1:=G
   subst this;omega
 have h2:(o.drop i).countP (λk=>decide (rkS s h k<rkS s h o[i]))=0:=by
  rw[Bf];intro x hx;rw[ii];obtain⟨j,hj,rfl⟩:=gz.1 hx;rw[bg] at hj;rw[Fv];rcases dx j with z|z
  ·subst z;simp
  ·have:=di.1 hs i (i+j) hi G G;omega
 have h3:(o.take i++o.drop i).countP (λk=>decide (rkS s h k<rkS s h o[i]))=i:=by rw[List.countP_append,h1,h2,qa]
 rwa[gq] at h3
theorem CX {w:Int} {j:Nat} {t:Int × Int}:t∈turnsOf w j↔t.1=w/\0<=t.2/\t.2<j:=by
 unfold turnsOf;rw[il];constructor
 ·rintro ⟨i,hi,rfl⟩;rw[ji] at hi;exact⟨rfl,by simp only;omega,by simp only;omega⟩
 ·rintro ⟨rfl,h1,h2⟩;refine⟨t.2.toNat,ji.2 G,?_⟩;rw[ou h1]
theorem BJ {ws:List (List Int)} {t:Int × Int}: ∀ {k:Nat},t∈iI ws k↔(0<=t.1/\t.1<k)/\0<=t.2/\t.2<(rdl ws t.1).length
 |0=>by
  constructor
  ·intro h;cases h
  ·rintro⟨h,_⟩;omega
 | k+1=>by
  show t∈iI ws k++turnsOf k (rdl ws k).length↔_;rw[fw,BJ,CX];constructor
  ·rintro (⟨h1,h2⟩|⟨h1,h2,h3⟩)
   ·exact⟨⟨h1.1,G⟩,h2⟩
   ·rw[h1];exact⟨⟨G,G⟩,h2,h3⟩
  ·rintro ⟨h1,h2,h3⟩;by_cases e:t.1=k
   ·exact .inr ⟨e,h2,by rw[e] at h3;exact h3⟩
   ·exact .inl ⟨⟨h1.1,G⟩,h2,h3⟩
theorem yY {ws:List (List Int)} {t:Int × Int}:t∈iI ws ws.length↔TV ws t:=by
 rw[BJ];unfold TV;constructor
 ·rintro⟨⟨a,b⟩,c,d⟩;exact⟨a,b,c,d⟩
 ·rintro⟨a,b,c,d⟩;exact⟨⟨a,b⟩,c,d⟩
theorem KE (w:Int) (j:Nat):(turnsOf w j).Nodup:=by
 unfold turnsOf;refine ik.2 ((vk (n:=j)).imp λ{a b} h e=>h ?_);simp only[xh,zm] at e;omega
theorem tK (ws:List (List Int)): ∀k,(iI ws k).Nodup
 |0=> .nil
 |k+1=>by
  refine vz.2 ⟨tK ws k,KE _ _,λa ha b hb e=> ?_⟩;subst e;have h1:=(BJ.1 ha).1;have h2:=(CX.1 hb).1;omega
theorem MS {ws:List (List Int)} {i j:Nat} (h:i<=j):mO ws i<=mO ws j:=by
 unfold mO;obtain⟨d,rfl⟩: ∃d,j=i+d:=⟨j-i,G⟩;rw[Gs,ow,ah];omega
theorem TH {ws:List (List Int)} {k:Nat} {i:Int} (h0:0<=i) (h:i<k):rd (qE ws k) i=mO ws i.toNat:=by
 have hi:i.toNat<k:=G
 simp[rd,qE,af,hi]
theorem aTz {ws:List (List Int)} {w j:Int} (h0:0<=w) (h1:w<ws.length) (h2:0<=j) (h3:j<(rdl ws w).length):rd ws.flatten (mO ws w.toNat+j)=rd (rdl ws w) j:=by
 have e:ws.flatten=(ws.take w.toNat).flatten++(ws.drop w.toNat).flatten:=by
  rw[<-ow,gq]
 rw[e,aMx h0 h1,qm];unfold rd;rw[af,iy (by unfold mO;omega),je (by unfold mO;omega),af];congr 2;unfold mO;omega
theorem PM {ws:List (List Int)} {t:Int × Int} (ht:TV ws t):gI (qE ws ws.length) t=mO ws t.1.toNat+t.2:=by
 unfold gI;rw[TH ht.1 ht.2.1]
theorem aNj {ws:List (List Int)} {t u:Int × Int} (ht:TV ws t) (hu:TV ws u) (h:gI (qE ws ws.length) t=gI (qE ws ws.length) u):t=u:=by
 rw[PM ht,PM hu] at h;obtain⟨a1,a2,a3,a4⟩:=ht;obtain⟨b1,b2,b3,b4⟩:=hu;have o1:=kY a1 a2;have o2:=kY b1 b2
 have e:t.1=u.1:=by
  rcases ja t.1 u.1 with x|x|x
  ·have:=MS (ws:=ws) (show(t.1+1).toNat<=u.1.toNat by omega);omega
  ·exact x
  ·have:=MS (ws:=ws) (show(u.1+1).toNat<=t.1.toNat by omega);omega
 rw[e] at h;exact Prod.ext e G
theorem aWq {ws:List (List Int)} (hN:ws.flatten.length<=1000000) {t:Int × Int} (ht:TV ws t):TOk ws (qE ws ws.length) ws.flatten.length t:=by
 obtain⟨a1,a2,a3,a4⟩:=ht;have o1:=kY a1 a2;have o2:=aDw ws (t.1+1).toNat;have e:=TH (ws:=ws) a1 a2;have hb:=OA ws ws.length;refine⟨⟨a1,a2,G⟩,⟨a3,a4,G⟩,G,?_⟩;rw[e];omega
theorem aMh (ws:List (List Int)):RK ws (qE ws ws.length) 1 ws.flatten:=by
 intro t u ht hu
 have one: ∀t,TV ws t->rd ws.flatten (gI (qE ws ws.length) t)=tw ws t 0:=by
  intro t ht;rw[PM ht,aTz ht.1 ht.2.1 ht.2.2.1 ht.2.2.2];obtain⟨a1,a2,a3,a4⟩:=ht;unfold tw rd;rw[qa,lc G]
 rw[one t ht,one u hu];constructor
 ·constructor
  ·exact λh=>⟨0,G,λi hi=>G,h⟩
  ·rintro ⟨k,hk,_,h⟩;obtain rfl:k=0:=G
   exact h
 ·constructor
  ·intro h i hi;obtain rfl:i=0:=G
   exact h
  ·exact λh=>h 0 G
theorem aLe {ws:List (List Int)} (t:Int × Int):Per (tw ws t) (rdl ws t.1).length:=by
 intro i;unfold tw;rw[<-qd,Nat.add_mod_right]
def pR (ws:List (List Int)) (t u:Int × Int):Prop:=Lt (tw ws t) (tw ws u)\/(∀i,tw ws t i=tw ws u i)/\ltI t u
theorem aNq {ws:List (List Int)} {M:Nat} {t u:Int × Int} (hM:EqH M (tw ws t) (tw ws u)-> ∀i,tw ws t i=tw ws u i):aNt ws M t u↔pR ws t u:=by
 unfold aNt pR;constructor
 ·rintro (⟨k,_,h1,h2⟩|⟨e,h⟩)
  ·exact .inl ⟨k,h1,h2⟩
  ·exact .inr ⟨hM e,h⟩
 ·rintro (⟨k,h1,h2⟩|⟨e,h⟩)
  ·rcases tri M (tw ws t) (tw ws u) with a|a|⟨m,_,g1,g2⟩
   ·exact .inl a
   ·have:=hM a k;omega
   ·exfalso;by_cases x:k<m
    ·have:=g1 k x;omega
    ·by_cases y:m<k
     ·have:=h1 m y;omega
     ·have:k=m:=G
      subst this;omega
  ·exact .inr ⟨λi _=>e i,h⟩
theorem VH {ws:List (List Int)} {M:Nat} {t u:Int × Int} (ht:TV ws t) (hu:TV ws u) (hM:(rdl ws t.1).length+(rdl ws u.1).length<=M) (h:EqH M (tw ws t) (tw ws u)): ∀i,tw ws t i=tw ws u i:=by
 obtain⟨a1,a2,a3,a4⟩:=ht;obtain⟨b1,b2,b3,b4⟩:=hu;exact agree G G (aLe t) (aLe u) λi hi=>h i G
theorem VG {ws:List (List Int)} {h:Int} (h0:0<h) (ee: ∀t u,TV ws t->TV ws u->EqH (lX h) (tw ws t) (tw ws u)->EqH (fJ h) (tw ws t) (tw ws u)) {t u:Int × Int} (ht:TV ws t) (hu:TV ws u) (he:EqH (lX h) (tw ws t) (tw ws u)): ∀i,tw ws t i=tw ws u i:=by
 have e1:lX h=h.toNat:=by unfold lX;omega
 have e2:fJ h=h.toNat+h.toNat:=by unfold fJ;rw[bu G];omega
 rw[e1,e2] at ee;rw[e1] at he;intro i
 induction i using Nat.strongRecOn generalizing t u with
 | _ i ih=>
  by_cases hi:i<h.toNat
  ·exact he i hi
  ·have h2:=(aEm.1 (ee t u ht hu he)).2;have f1:(λi=>tw ws t (i+h.toNat))=tw ws (sh ws t h):=funext λi=>(LM ht G i).symm;have f2:(λi=>tw ws u (i+h.toNat))=tw ws (sh ws u h):=funext λi=>(LM hu G i).symm;rw[f1,f2] at h2;have:=ih (i-h.toNat) G (aCy ht) (aCy hu) h2;rw[LM ht G,LM hu G,qf G] at this;exact this
theorem dD {l:List Int} {j:Int} (h0:0<=j) (h:j<l.length):l.take (j+1).toNat=l.take j.toNat++[rd l j]:=by
 have hl:j.toNat<l.length:=G
 rw[show(j+1).toNat=j.toNat+1 by omega,qp,av hl];simp[rd,af,av hl]
theorem aVb (t u:Int × Int):ltI t u\/t=u\/ltI u t:=by
 unfold ltI;rcases ja t.1 u.1 with a|a|a
 ·exact .inl (.inl a)
 ·rcases ja t.2 u.2 with b|b|b
  ·exact .inl (.inr ⟨a,b⟩)
  ·exact .inr (.inl (Prod.ext a b))
  ·exact .inr (.inr (.inr ⟨a.symm,b⟩))
 ·exact .inr (.inr (.inl a))
theorem Sorted.toO {ws:List (List Int)} {M:Nat} {l:List (Int × Int)} (s:Sorted ws M l) (hM: ∀t u,TV ws t->TV ws u->EqH M (tw ws t) (tw ws u)-> ∀i,tw ws t i=tw ws u i):l.Pairwise (pR ws):=by
 refine(s.pw.and s.nodup).imp_of_mem λ{x y} hx hy h=> ?_;have Na:=aNq (hM x y (s.tv x hx) (s.tv y hy));rw[<-Na];rcases tri M (tw ws x) (tw ws y) with a|a|a
 ·exact .inl a
 ·rcases aVb x y with b|b|b
  ·exact .inr ⟨a,b⟩
  ·exact absurd b h.2
  ·exact absurd (.inr ⟨a.symm,b⟩) h.1
 ·exact absurd (.inl a) h.1
theorem stay {ws:List (List Int)} {bs rs:List Int} {h w:Int} {l lo:List (Int × Int)} (h0:0<h) (hr:RK ws bs (lX h) rs) (s:Sorted ws (fJ h) l) (iz: ∀t,TV ws t->t∈l) (hp:l.Perm lo) (st:Steps bs rs lo w) (hw:gK ws bs rs h l (l.length-1)=w):l.Pairwise (pR ws):=by
 have Mi:lX h<=fJ h:=by unfold lX fJ;rw[bu G];omega
 refine s.toO λt u ht hu e=>VG h0 (λt u ht hu e=> ?_) ht hu (e.mono Mi);obtain⟨i,hi,rfl⟩:=gz.1 (iz t ht);obtain⟨j,hj,rfl⟩:=gz.1 (iz u hu);rw[<-nA hi,<-nA hj] at e ⊢;exact aUp h0 hr s hp st hw hi hj e
theorem aLn {l:List (Int × Int)} {j:Int} (h0:0<=j) (h:j<l.length):l.take (j+1).toNat=l.take j.toNat++[rdp l j]:=by
 have hl:j.toNat<l.length:=G
 rw[show(j+1).toNat=j.toNat+1 by omega,qp,av hl];simp[rdp,af,av hl]
theorem BH {α:Type} {r:α->α->Prop} (Hc: ∀x y,r x y-> ¬r y x): ∀ {a b:List α},a.Perm b->a.Pairwise r->b.Pairwise r->a=b
 |[],b,h,_,_=>(List.nil_perm.1 h).symm
 |x::a,[],h,_,_=>absurd h.symm cD
 | x::a,y::b,h,ha,hb=>by
  have e:x=y:=by
   rcases jf.1 (h.mem_iff.1 (.head _)) with e|e
   ·exact e
   ·have h1:=(iv.1 hb).1 x e;rcases jf.1 (h.mem_iff.2 (.head _)) with e2|e2
    ·exact e2.symm
    ·exact absurd h1 (Hc _ _ ((iv.1 ha).1 y e2))
  subst e;rw[BH Hc ((List.perm_cons x).1 h) (iv.1 ha).2 (iv.1 hb).2]
end Go.Pure
namespace Go.Pure
open Go Go.Eng
end Go.Pure
namespace Go.Pure
open Go Go.Eng
variable {ws:List (List Int)}
theorem Lt.of_H {H:Nat} {U V:Nat->Int} (h:LtH H U V):Lt U V:=by
 obtain⟨k,_,r⟩:=h;exact⟨k,r⟩
theorem IP (U V:Nat->Int):Lt U V\/(∀i,U i=V i)\/Lt V U:=by
 by_cases h: ∀i,U i=V i
 ·exact .inr (.inl h)
 ·obtain ⟨k,hk⟩:=Dm.1 h;rcases tri (k+1) U V with a|a|a
  ·exact .inl (Lt.of_H a)
  ·exact absurd (a k G) hk
  ·exact .inr (.inr (Lt.of_H a))
theorem Lt.asymm {U V:Nat->Int} (h:Lt U V): ¬Lt V U:=by
 obtain⟨k,h1,hl⟩:=h;rintro⟨m,h2,me⟩;by_cases a:k<m
 ·have:=h2 k a;omega
 ·by_cases b:m<k
  ·have:=h1 m b;omega
  ·have:k=m:=G
   subst this;omega
theorem Lt.not_eq {U V:Nat->Int} (h:Lt U V): ¬ ∀i,U i=V i:=λe=>by
 obtain⟨k,_,hl⟩:=h;have:=e k;omega
theorem ZJ (t u:Int × Int) (h:pR ws t u): ¬pR ws u t:=by
 rcases h with h|⟨e,h⟩
 ·rintro (g|⟨e,g⟩)
  ·exact h.asymm g
  ·exact h.not_eq λi=>(e i).symm
 ·rintro (g|⟨e',g⟩)
  ·exact g.not_eq λi=>(e i).symm
  ·unfold ltI at h g;omega
theorem ZI {t u v:Int × Int} (h:pR ws t u) (g:pR ws u v):pR ws t v:=by
 rcases h with⟨k,h1,hl⟩|⟨e,h⟩
 ·rcases g with g|⟨e',_⟩
  ·exact .inl (Lt.trans ⟨k,h1,hl⟩ g)
  ·exact .inl ⟨k,λi hi=>(h1 i hi).trans (e' i),by rw[<-e' k];exact hl⟩
 ·rcases g with⟨k,h1,hl⟩|⟨e',g⟩
  ·exact .inl ⟨k,λi hi=>(e i).trans (h1 i hi),by rw[e k];exact hl⟩
  ·exact .inr ⟨λi=>(e i).trans (e' i),by unfold ltI at*;omega⟩
variable {L s:List Int} {k:Int} {ws:List (List Int)} {l:List (Int × Int)}
def ps (L:List Int) (k:Int):Int:=(L.take k.toNat).sum
theorem lQ (h0:0<=k) (h:k<L.length):ps L (k+1)=ps L k+rd L k:=by
 unfold ps;rw[dD h0 h,Bq];simp
theorem ZE (h:L.length<=k):ps L k=L.sum:=by
 unfold ps;rw[bn G]
def gF (s L:List Int) (k:Int):List (List Int):=(List.range k.toNat).map λi:Nat=>(s.drop (ps L i).toNat).take (rd L i).toNat
theorem CG (h0:0<=k):gF s L (k+1)=gF s L k++[(s.drop (ps L k).toNat).take (rd L k).toNat]:=by
 unfold gF;rw[show(k+1).toNat=k.toNat+1 by omega,yo,jh];simp only[kv,qi];rw[show((k.toNat:Nat):Int)=k by omega]
theorem rT (s L:List Int) (k:Int):(gF s L k).length=k.toNat:=by simp[gF]
theorem EE: ∀ {L:List Int},(∀x∈L,0<x)->(L.length:Int)<=L.sum
 |[],_=>cD
 |x::L,h=>by
  have a:=h x cD;have b:=EE (L:=L) λy hy=>h y (dw _ hy);simp only[dm,xg];omega
theorem SF {L:List Int} (h: ∀x∈L,0<x) (k:Nat):(L.take k).sum<=L.sum:=by
 have e:L.sum=(L.take k).sum+(L.drop k).sum:=by rw[<-Bq,gq]
 have:=EE (L:=L.drop k) λy hy=>h y (pg hy);omega
theorem MR {L:List Int} (h: ∀x∈L,0<x) (k:Int):0<=ps L k:=by
 have:=EE (L:=L.take k.toNat) λy hy=>h y (lu hy);unfold ps;omega
theorem bH (h0:0<=k) (h:k<L.length):rd L k∈L:=by
 unfold rd;rw[af,av G];exact kz _
theorem CJ {s L:List Int} (hL: ∀x∈L,0<x) (hs:L.sum<=s.length): ∀k:Nat,k<=L.length->(gF s L k).flatten=s.take (ps L k).toNat
 |0,_=>rfl
 |k+1,hk=>by
  have h0:(0:Int)<=(k:Int):=G
  have kx:(k:Int)<L.length:=G
  have hp:=MR hL k;have hr:=hL _ (bH h0 kx);have e:((k+1:Nat):Int)=(k:Int)+1:=G
  rw[e,CG h0,ow,CJ hL hs k G,lQ h0 kx,show(ps L k+rd L k).toNat=(ps L k).toNat+(rd L k).toNat by omega,Gs];simp
theorem VC: ∀(f:Nat) (s:List Int),∀x∈KT f s,0<x
 |0,s,x,h=>by cases h
 | f+1,s,x,h=>by
  unfold KT at h;cases s with
  |nil=>cases h
  | cons a s=>
   simp only[Cm,uu,wu] at h;rcases jf.1 h with rfl|h
   ·have:=pG (s:=a::s) cD (a::s).length cD;omega
   ·exact VC f _ x h
theorem uM (s:List Int): ∀x∈fB s,0<x:=VC _ _
theorem VB: ∀(f:Nat) (s:List Int),s.length<=f->(KT f s).sum=s.length
 |0,s,h=>by
  have:s=[]:=vg.1 G;subst this;rfl
 | f+1,s,h=>by
  unfold KT;cases s with
  |nil=>rfl
  |cons a s=>
   simp only[Cm,uu,wu];have h1:=pG (s:=a::s) cD (a::s).length cD;have h2:=NB (a::s) (a::s).length;rw[xg,VB f _ (by rw[bg];omega),bg];omega
theorem zJ (s:List Int):(fB s).sum=s.length:=VB _ _ (dh _)
theorem VE (s:List Int):(fB s).length<=s.length:=by
 have:=EE (uM s);have:=zJ s;omega
theorem bCs (s:List Int) (k:Int):ps (fB s) k<=s.length:=by
 have:=SF (uM s) k.toNat;have:=zJ s;unfold ps;omega
def bws (s:List Int):List (List Int):=gF s (fB s) (fB s).length
theorem nK (s:List Int):(bws s).flatten=s:=by
 unfold bws;rw[CJ (uM s) (by rw[zJ];omega) _ (dh _),ZE (ky _),zJ];simp
theorem aWi (s:List Int):(bws s).length=(fB s).length:=by unfold bws;rw[rT];omega
theorem aWr (hp:l.Perm (iI ws ws.length)):l.length=ws.flatten.length:=by
 rw[hp.length_eq,AJ ws _ (dh _)];unfold mO;rw[ul]
theorem zS (hp:l.Perm (iI (bws s) (bws s).length)):l.length=s.length:=by rw[aWr hp,nK]
def lastB (ws:List (List Int)) (t:Int × Int):Int:=rd (rdl ws t.1) ((t.2+(rdl ws t.1).length-1)%((rdl ws t.1).length:Int))
theorem aHw {t:Int × Int} (h:TV ws t):lastB ws t∈ws.flatten:=by
 obtain⟨a,b,c,d⟩:=h;have hn:(0:Int)<(rdl ws t.1).length:=G
 have h1:=ym (t.2+(rdl ws t.1).length-1) (Int.ne_of_gt hn);have h2:=wz (t.2+(rdl ws t.1).length-1) hn;exact Az.2 ⟨_,aTw a b,bH h1 h2⟩
theorem lC (hp:l.Perm (iI ws ws.length)) (hb:aO ws.flatten):aO (l.map (lastB ws)):=by
 intro x hx;obtain⟨t,ht,rfl⟩:=il.1 hx;exact hb _ (aHw (yY.1 (hp.subset ht)))
end Go.Pure
