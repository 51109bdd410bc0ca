/- Own work. -/
import Derived.WalkKit
import Derived.Maps.AppendAt
import Derived.Deep.LoopGhost
import Derived.Orders
import Derived.OrdersIn
import Derived.TacticsIn
import Derived.Sort.LoopGhostIn
import Derived.Laws.BytesArg
import Derived.Lib.ConvBytes
import Derived.Laws.MakeOwn
import Derived.Laws.OwnMore
import Derived.Laws.Slices
import Derived.OrdersHeld
import Derived.Test.YtnbfoleohpdhjaaGreatProg
import Derived.ProofKit
import Derived.OpenShut
import Derived.Laws.LoneSync
import Derived.Deep.Matrix
import Derived.Laws.Rows
import Derived.SizedLaws
import Derived.Shelf.SlSortCmp.WholeK
import Derived.Stop.BytesEq
import Derived.LoopNIn
import Derived.Laws.CopyRow
import Derived.Laws.IdiomCopy
import Derived.RangeFuncRecord
import Derived.RangeFuncSeq
import Derived.RangeFuncCalls
import Derived.RangeFuncKeeps
import Derived.RangeFuncBox
import Derived.RangeFuncNested
set_option linter.unusedVariables false
set_option linter.unusedSimpArgs false
set_option maxHeartbeats 8000000
namespace Go
abbrev aa:=@Go.Proofs.Tryz.underlying52
abbrev af:=@Go.Proofs.Tryz.underlying22
abbrev ah.{u}:=@List.length_append.{u}
abbrev ai.{u}:=@List.getD_eq_getElem?_getD.{u}
abbrev ak:=@Nat.le_of_ble_eq_true
abbrev au:=@Go.Proofs.Tryz.underlying3
abbrev av.{u}:=@List.getElem?_eq_getElem.{u}
abbrev ax.{u}:=@List.length_take.{u}
abbrev ay:=@Go.Proofs.Tryz.underlying23
abbrev az:=@Go.Proofs.Tryz.underlying5
abbrev bg.{u}:=@List.take_of_length_le.{u}
abbrev bi:=@Go.Proofs.Tryz.underlying27
abbrev bn.{u}:=@List.length_drop.{u}
abbrev bq.{u,v}:=@congrArg.{u,v}
abbrev bu.{u,v}:=@List.length_map.{u,v}
abbrev bz.{u}:=@List.length_replicate.{u}
abbrev cz:=@Int.lt_or_le
abbrev df.{u}:=@if_neg.{u}
abbrev dh:=@Int.toNat_natCast
abbrev di:=@Go.Proofs.Tryz.underlying25
abbrev dm.{u}:=@if_pos.{u}
abbrev dn.{u}:=@List.length_cons.{u}
abbrev dw.{u}:=@List.eq_nil_of_length_eq_zero.{u}
abbrev dx.{u}:=@List.append_assoc.{u}
abbrev dz.{u}:=@List.pairwise_iff_getElem.{u}
abbrev ed:=@Nat.le_refl
abbrev ek.{u}:=@List.mem_append.{u}
abbrev fe:=@Go.Proofs.Tryz.underlying62
abbrev fo:=@Nat.eq_zero_or_pos
abbrev fw.{u}:=@List.getElem?_eq_some_iff.{u}
abbrev gm.{u}:=@List.mem_cons_of_mem.{u}
abbrev gp:=@Nat.lt_or_ge
abbrev gq.{u}:=@List.mem_of_getElem?.{u}
abbrev gu.{u}:=@Array.getElem?_eq_some_iff.{u}
abbrev gy:=@Go.Proofs.Tryz.underlying70
abbrev gz.{u}:=@List.take_append_drop.{u}
abbrev ib.{u}:=@List.mem_iff_getElem.{u}
abbrev ic.{u}:=@List.length_singleton.{u}
abbrev ig.{u}:=@List.mem_singleton.{u}
abbrev ii.{u,v}:=@List.mem_map.{u,v}
abbrev ik.{u,v}:=@List.pairwise_map.{u,v}
abbrev il.{u}:=@List.length_nil.{u}
abbrev iv.{u}:=@List.nil_append.{u}
abbrev iw.{u}:=@List.append_nil.{u}
abbrev iy.{u}:=@List.cons_append.{u}
abbrev ja.{u}:=@List.pairwise_cons.{u}
abbrev jb:=@decide_eq_true_iff
abbrev jc.{u,v}:=@List.map_append.{u,v}
abbrev jd.{u}:=@List.mem_cons.{u}
abbrev je.{u,v}:=@Option.map_eq_some_iff.{u,v}
abbrev jf:=@Int.emod_lt_of_pos
abbrev jg.{u}:=@Option.some.inj.{u}
abbrev jh:=@Go.Proofs.Tryz.underlying175
abbrev ji.{u}:=@List.getElem?_append_left.{u}
abbrev jk.{u}:=@List.getElem?_append_right.{u}
abbrev jl:=@Int.lt_trichotomy
abbrev jm.{u,v}:=@List.map_cons.{u,v}
abbrev jo:=@Go.Proofs.Tryz.underlying177
abbrev jq.{u}:=@Array.length_toList.{u}
abbrev jr:=@Go.Proofs.Tryz.underlying183
abbrev jv:=@Int.emod_nonneg
abbrev jw:=@Go.Sem.run_bind
abbrev jy:=@List.mem_range
abbrev kg:=@Go.Result.andThen_ok
abbrev ko:=@Go.Value.slice.injEq
abbrev ku.{u}:=@List.pairwise_append.{u}
abbrev kv.{u,v}:=@Option.map_some.{u,v}
abbrev ky:=@decide_eq_true
abbrev kz:=@Int.emod_eq_of_lt
abbrev lc.{u}:=@List.sublist_flatten_of_mem.{u}
abbrev lh.{u}:=@List.filter_cons_of_neg.{u}
abbrev ll.{u}:=@List.mem_of_mem_take.{u}
abbrev lm.{u}:=@List.Pairwise.imp_of_mem.{u}
abbrev lq.{u,v}:=@List.getElem?_map.{u,v}
abbrev lu.{u}:=@List.getElem_mem.{u}
abbrev lv:=@Nat.mod_eq_of_lt
abbrev mf.{u}:=@List.drop_eq_getElem_cons.{u}
abbrev mg:=@Int.toNat_of_nonneg
abbrev mh.{u}:=@List.flatten_append.{u}
abbrev mo.{u}:=@List.length_reverse.{u}
abbrev mr.{u}:=@Option.some.injEq.{u}
abbrev ng.{u}:=@List.getElem?_eq_none.{u}
abbrev ni:=@Int.le_refl
abbrev nk:=@decide_eq_false
abbrev nu.{u}:=@List.mem_of_mem_drop.{u}
abbrev ny:=@Nat.zero_add
abbrev nz:=@Nat.add_assoc
abbrev og:=@Go.Proofs.Tryz.underlying205
abbrev oh.{u}:=@List.Sublist.length_le.{u}
abbrev ol.{u}:=@List.drop_of_length_le.{u}
abbrev oq.{u}:=@List.flatten_cons.{u}
abbrev ou:=@Go.run_underlying
abbrev ow.{u}:=@List.mem_filter.{u}
abbrev oz:=@Nat.zero_le
abbrev pg.{u}:=@List.filter_cons_of_pos.{u}
abbrev pq.{u}:=@Array.getElem?_eq_getElem.{u}
abbrev pu:=@Go.Sem.run_pure
abbrev pz.{u}:=@List.singleton_append.{u}
abbrev qa:=@Int.mul_le_mul_of_nonneg_right
abbrev qb.{u}:=@List.getElem?_take.{u}
abbrev qc.{u}:=@List.take_length.{u}
abbrev qd.{u}:=@Option.getD_some.{u}
abbrev qf:=@Go.Proofs.Tryz.underlying302
abbrev qg:=@Go.Proofs.Tryz.underlying310
abbrev qh:=@Bool.and_eq_true
abbrev qi.{u}:=@List.pairwise_singleton.{u}
abbrev qj.{u}:=@List.length_flatten.{u}
abbrev ql.{u,v,w}:=@List.map_map.{u,v,w}
abbrev qm:=@Nat.le_trans
abbrev qo.{u}:=@List.getElem?_take_of_lt.{u}
abbrev qp:=@Nat.mul_one
abbrev qw:=@Go.Proofs.Tryz.underlying188
abbrev qx.{u}:=@List.size_toArray.{u}
abbrev qy.{u}:=@List.take_add_one.{u}
abbrev qz.{u}:=@Array.getElem?_toList.{u}
abbrev rf.{u}:=@List.perm_append_comm.{u}
abbrev rq:=@Nat.add_zero
abbrev ry:=@Go.Proofs.Tryz.underlying9
abbrev rz.{u,v}:=@List.map_nil.{u,v}
abbrev si.{u,v,w}:=@getElem!_pos.{u,v,w}
abbrev sj.{u}:=@List.getElem?_drop.{u}
abbrev su:=@Nat.sub_add_cancel
abbrev sw:=@Go.Proofs.Tryz.underlying227
abbrev tq:=@Go.Proofs.Tryz.underlying81
abbrev uf.{u}:=@List.mem_flatten.{u}
abbrev ug:=@decide_eq_decide
abbrev uh:=@decide_eq_false_iff_not
abbrev ui:=@Int.mul_assoc
abbrev uj:=@Go.Proofs.Tryz.underlying180
abbrev uk.{u}:=@List.filter_append.{u}
abbrev ul.{u}:=@List.ext_getElem.{u}
abbrev um.{u,v}:=@List.map_toArray.{u,v}
abbrev uo.{u}:=@List.sum_cons.{u}
abbrev uq.{u}:=@List.append_toArray.{u}
abbrev ut.{u}:=@List.filter_sublist.{u}
abbrev uu.{u,v}:=@List.map_congr_left.{u,v}
abbrev uy:=@Decidable.not_not
abbrev uz.{u}:=@List.ext_getElem?.{u}
abbrev ve:=@Nat.add_comm
abbrev vg:=@Nat.mul_le_mul_right
abbrev vk:=@Go.Proofs.Tryz.underlying225
abbrev vo:=@Go.Proofs.Tryz.underlying239
abbrev vv:=@Int.pow_zero
abbrev vw.{u}:=@List.all_eq_true.{u}
abbrev vz.{u}:=@List.not_mem_nil.{u}
abbrev wh.{u}:=@Array.toList_append.{u}
abbrev wo.{u}:=@List.getElem_take.{u}
abbrev wu:=@Nat.lt_trichotomy
abbrev ww.{u}:=@Array.getElem?_modify.{u}
abbrev wz.{u}:=@List.Perm.append_left.{u}
abbrev xc:=@Int.pow_nonneg
abbrev xe:=@Int.pow_succ
abbrev xg.{u}:=@List.nodup_cons.{u}
abbrev xh:=@Bool.false_eq_true
abbrev xk:=@List.getElem_range
abbrev xm.{u}:=@Array.replicate_succ.{u}
abbrev xq.{u}:=@Array.replicate_zero.{u}
abbrev xu:=@List.nodup_range
abbrev xw:=@Go.Proofs.Tryz.underlying198
abbrev xx.{u}:=@List.drop_eq_nil_of_le.{u}
abbrev xz.{u}:=@List.getElem?_set.{u}
abbrev yc:=@List.length_range
abbrev yf.{u}:=@List.nodup_append.{u}
abbrev yg:=@Nat.sub_zero
abbrev yh:=@decide_eq_true_eq
abbrev yj.{u}:=@if_false.{u}
abbrev yl:=@Nat.add_mul
abbrev ym.{u}:=@List.length_filter_le.{u}
abbrev yo:=@Nat.eq_of_beq_eq_true
abbrev yt.{u,v}:=@List.getElem_map.{u,v}
abbrev yu.{u}:=@List.mem_reverse.{u}
abbrev yw:=@Nat.mod_lt
abbrev yx:=@Int.add_zero
abbrev yz:=@Go.Proofs.Tryz.underlying59
abbrev za:=@Go.Proofs.Tryz.underlying97
abbrev zb.{u}:=@List.take_zero.{u}
abbrev ze.{u}:=@List.drop_sublist.{u}
abbrev zf.{u}:=@List.getElem?_replicate.{u}
abbrev zg.{u}:=@List.push_toArray.{u}
abbrev zh:=@of_decide_eq_true
abbrev zi:=@List.getElem?_range
abbrev zk.{u}:=@Array.getD_eq_getD_getElem?.{u}
abbrev zl.{u}:=@List.Perm.append_right.{u}
abbrev zm:=@Go.Proofs.Tryz.underlying75
abbrev zo:=@Int.natCast_emod
abbrev zq:=@BitVec.toNat_ofInt
abbrev zt:=@Nat.mod_eq_sub_mod
abbrev zu:=@Go.Proofs.Tryz.underlying112
abbrev zw:=@true_and
abbrev zx.{u}:=@Array.getElem?_append.{u}
abbrev zy:=@Int.ediv_lt_of_lt_mul
abbrev zz:=@List.range_succ
abbrev Aa:=@Nat.min_eq_left
abbrev Ab:=@Int.mul_one
abbrev Ad:=@Int.pow_add
abbrev Ae.{u,v}:=@List.flatMap_cons.{u,v}
abbrev Af.{u}:=@List.getElem_drop.{u}
abbrev Ag:=@Nat.mul_comm
abbrev Ah:=@Nat.one_mul
abbrev Ai:=@Go.Proofs.Tryz.zeroValue112
abbrev Aj:=@and_true
abbrev Ak:=@Go.run_sliceAt_slice
abbrev Al:=@Go.Proofs.Tryz.underlying4
abbrev Am:=@Go.Addr.mk.injEq
abbrev Ao.{u,v}:=@Prod.mk.injEq.{u,v}
abbrev Ap:=@Go.Proofs.Tryz.underlying104
abbrev Ar:=@Int.mul_nonneg
abbrev Av.{u}:=@List.length_eq_zero_iff.{u}
abbrev Az.{u,v}:=@List.mem_flatMap.{u,v}
abbrev Ba:=@Go.Proofs.Tryz.underlying3
abbrev Bb:=@Go.wpIn_mono
abbrev Bc:=@Int.le_ediv_iff_mul_le
abbrev Be:=@Int.lt_or_eq_of_le
abbrev Bf.{u}:=@Option.toList_some.{u}
abbrev Bg.{u}:=@Array.getElem?_setIfInBounds.{u}
abbrev Bh:=@Bool.or_eq_true
abbrev Bi:=@Int.natCast_mul
abbrev Bj.{u,v}:=@Option.map_none.{u,v}
abbrev Bl:=@Go.Proofs.Tryz.zeroValue3
abbrev Bn:=@Go.callsIn_of_wp
abbrev Bo.{u}:=@List.attach_map_subtype_val.{u}
abbrev Bp:=@Go.Proofs.Tryz.underlying70
abbrev Bq:=@Go.Proofs.Tryz.underlying81
abbrev Br:=@Int.fdiv_eq_ediv_of_nonneg
abbrev Bt.{u}:=@List.replicate_succ'.{u}
abbrev Bu:=@Nat.mul_le_mul
abbrev Bv:=@Go.Proofs.Tryz.sizeOf112
abbrev Bw:=@Int.le_of_lt
abbrev Bz:=@Int.natCast_zero
abbrev Ca:=@Go.IntKind.wrap_i64
abbrev Cb:=@Nat.le_add_right
abbrev Cc:=@Nat.succ_mul
abbrev Ce:=@Nat.zero_mul
abbrev Cf:=@Go.Proofs.Tryz.underlying0
abbrev Cg:=@Go.Proofs.Tryz.underlying4
abbrev Ch:=@Go.Proofs.Tryz.underlying5
abbrev Ci:=@Go.Proofs.Tryz.underlying9
abbrev Cj:=@Go.Proofs.Tryz.zeroValue70
abbrev Ck:=@Go.Proofs.Tryz.zeroValue81
abbrev Cm.{u}:=@List.countP_eq_zero.{u}
abbrev Cn.{u}:=@List.filter_eq_self.{u}
abbrev Co.{u,v}:=@List.flatMap_append.{u,v}
abbrev Cq.{u}:=@List.getElem_set_ne.{u}
abbrev Cr.{u}:=@List.eq_of_mem_replicate.{u}
abbrev Cs.{u}:=@List.length_erase_of_mem.{u}
abbrev Cu.{u,v}:=@List.map_take.{u,v}
abbrev Cv:=@Go.Proofs.Tryz.isAgg112
abbrev Cw:=@UInt8.toNat_ofNat_of_lt'
abbrev Cx:=@Go.Proofs.Tryz.underlying112
abbrev Cy:=@Go.Proofs.Tryz.underlying178
abbrev Cz:=@Go.IntKind.wrap_u8
abbrev Da.{u}:=@List.cons.injEq.{u}
abbrev Db.{u}:=@List.sum_append.{u}
abbrev Dc:=@Go.Result.ok.injEq
abbrev De:=@Go.Proofs.Tryz.zeroValue0
abbrev Dg:=@Go.Proofs.Tryz.zeroValue4
abbrev Dh:=@Go.Proofs.Tryz.zeroValue5
abbrev Di:=@Go.Proofs.Tryz.zeroValue9
abbrev Dj.{u}:=@List.mem_replicate.{u}
abbrev Dk:=@Nat.lt_or_gt_of_ne
abbrev Dl:=@Nat.mul_div_cancel
abbrev Dm:=@Nat.pos_of_ne_zero
abbrev Dn:=@Go.Proofs.Tryz.underlying105
abbrev Dp:=@Go.Proofs.Tryz.underlying217
abbrev Dq:=@Go.Proofs.Tryz.underlying218
abbrev Dr:=@Go.Proofs.Tryz.underlying259
abbrev Dt:=@Go.Proofs.Tryz.underlying263
abbrev Du:=@Go.Proofs.Tryz.underlying286
abbrev Dv:=@Go.Proofs.Tryz.underlying287
abbrev Dw.{u}:=@List.getElem?_cons_succ.{u}
abbrev Dx.{u,v}:=@Option.bind_eq_some_iff.{u,v}
abbrev Dy.{u}:=@List.set_eq_take_append_cons_drop.{u}
abbrev Dz.{u}:=@Array.getElem?_eq_none.{u}
abbrev Ea:=@Int.mul_comm
abbrev Eb.{u}:=@List.isEmpty_cons.{u}
abbrev Ec.{u}:=@List.length_pos_of_mem.{u}
abbrev Ed.{u}:=@List.not_of_lt_findIdx.{u}
abbrev Ee.{u}:=@List.reverse_perm.{u}
abbrev Ef.{u}:=@List.take_left.{u}
abbrev Eg:=@Nat.le_mul_of_pos_left
abbrev Eh:=@Nat.sub_self
abbrev Ei:=@Go.Proofs.Tryz.sizeOf3
abbrev Ej:=@Go.Proofs.Tryz.zeroValue105
abbrev El:=@Go.Proofs.Tryz.zeroValue217
abbrev Em:=@Go.Proofs.Tryz.zeroValue218
abbrev En:=@Go.Proofs.Tryz.zeroValue259
abbrev Eo:=@Go.Proofs.Tryz.zeroValue263
abbrev Ep:=@Go.Proofs.Tryz.zeroValue286
abbrev Er:=@Go.Proofs.Tryz.zeroValue287
abbrev Es:=@not_false_eq_true
abbrev Et:=@Go.Proofs.Tryz.underlying72
abbrev Eu.{u}:=@List.replicate_append_replicate.{u}
abbrev Ev.{u}:=@List.countP_mono_left.{u}
abbrev Ew.{u}:=@List.pairwise_reverse.{u}
abbrev Ex.{u}:=@List.set_append_right.{u}
abbrev Ey:=@Go.RowKit.Below.refl
abbrev Ez:=@Int.ediv_le_self
abbrev Fa.{u,v}:=@List.map_reverse.{u,v}
abbrev Fb:=@Nat.and_two_pow_sub_one_eq_mod
abbrev Fe:=@Nat.div_eq_of_lt
abbrev Ff:=@Bool.not_true
abbrev Fg.{u}:=@List.all_cons.{u}
abbrev Fh:=@Go.Proofs.Tryz.sizeOf70
abbrev Fj:=@Go.Proofs.Tryz.sizeOf81
abbrev Fp:=@Go.Proofs.Tryz.underlying131
abbrev Fq:=@Go.Proofs.Tryz.underlying249
abbrev Fs:=@Go.Proofs.Tryz.underlying300
abbrev Fu.{u,v}:=@Array.getElem_mapIdx.{u,v}
abbrev Fv.{u}:=@Classical.not_forall.{u}
abbrev Fw:=@Int.mul_le_mul_of_nonneg_left
abbrev Fx:=@Int.pow_pos
abbrev Fy.{u}:=@List.findIdx_getElem.{u}
abbrev Fz.{u}:=@List.getElem_reverse.{u}
abbrev Ga.{u}:=@List.mem_append_left.{u}
abbrev Gb.{u}:=@List.mem_erase_of_ne.{u}
abbrev Gc.{u}:=@List.reverse_reverse.{u}
abbrev Gf.{u}:=@List.take_append_of_le_length.{u}
abbrev Gg:=@Nat.pow_le_pow_right
abbrev Gh:=@Go.Proofs.Tryz.func10
abbrev Gi:=@Go.Proofs.Tryz.isAgg3
abbrev Gj:=@Int.ediv_nonneg
abbrev Gl:=@Int.min_eq_left
abbrev Gm:=@Int.natCast_pow
abbrev Gn.{u}:=@List.drop_left'.{u}
abbrev Gp.{u}:=@List.length_set.{u}
abbrev Gq.{u}:=@List.take_left'.{u}
abbrev Gr.{u}:=@List.replicate_zero.{u}
abbrev Gs:=@Go.run_callFunc_extern
abbrev Gt:=@Int.sub_self
abbrev Gu.{u}:=@List.sum_nil.{u}
abbrev Gv:=@Nat.two_pow_add_eq_or_of_lt
abbrev Gw:=@Go.Proofs.Tryz.func107
abbrev Gx:=@Go.Proofs.Tryz.func108
abbrev Gy:=@Go.Proofs.Tryz.func110
abbrev Gz:=@Go.Proofs.Tryz.isAgg70
abbrev Ha:=@Go.Proofs.Tryz.isAgg81
abbrev Hd:=@Go.Proofs.Tryz.sizeOf0
abbrev He:=@Go.Proofs.Tryz.sizeOf4
abbrev Hf:=@Go.Proofs.Tryz.sizeOf5
abbrev Hg:=@Go.Proofs.Tryz.sizeOf9
abbrev Hl:=@Go.run_call_add
abbrev Hm:=@Go.Proofs.Tryz.underlying50
abbrev Ho.{u}:=@List.drop_drop.{u}
abbrev Hq.{u}:=@List.drop_left.{u}
abbrev Hr.{u}:=@List.drop_zero.{u}
abbrev Ht.{u}:=@List.set_cons_zero.{u}
abbrev Hu:=@Nat.add_sub_cancel
abbrev Hw:=@Go.Proofs.Tryz.sizeOf105
abbrev Hy:=@Go.Proofs.Tryz.sizeOf217
abbrev Hz:=@Go.Proofs.Tryz.sizeOf218
abbrev Ia:=@Go.Proofs.Tryz.sizeOf259
abbrev Ib:=@Go.Proofs.Tryz.sizeOf263
abbrev Ic:=@Go.Proofs.Tryz.sizeOf286
abbrev Ie:=@Go.Proofs.Tryz.sizeOf287
abbrev Ig:=@Go.grownCap_le_maxLen
abbrev Ih:=@or_false
abbrev Ii.{u}:=@Array.all_eq_true.{u}
abbrev Ij.{u}:=@Array.getElem_mem.{u}
abbrev Ik.{u}:=@List.countP_congr.{u}
abbrev Il.{u,v}:=@List.foldl_append.{u,v}
abbrev Im.{u}:=@List.idxOf_append.{u}
abbrev Io:=@Nat.add_mod_right
abbrev Ip:=@Nat.le_succ
abbrev Iq:=@Nat.mul_pos
abbrev Ir.{u}:=@Ne.symm.{u}
abbrev Iu:=@Go.Proofs.Tryz.func15
abbrev Iw:=@Go.Proofs.Tryz.func36
abbrev Iy:=@Go.Proofs.Tryz.func47
abbrev Iz:=@Go.Proofs.Tryz.func55
abbrev Ja:=@Go.Proofs.Tryz.isAgg0
abbrev Jb:=@Go.Proofs.Tryz.isAgg4
abbrev Jc:=@Go.Proofs.Tryz.isAgg5
abbrev Jd:=@Go.Proofs.Tryz.isAgg9
abbrev Je:=@Bool.false_or
abbrev Jf.{u,v}:=@List.map_drop.{u,v}
abbrev Jg.{u}:=@List.take_add.{u}
abbrev Jh:=@Go.Proofs.Tryz.isAgg105
abbrev Ji:=@Go.Proofs.Tryz.isAgg217
abbrev Jj:=@Go.Proofs.Tryz.isAgg218
abbrev Jk:=@Go.Proofs.Tryz.isAgg259
abbrev Jl:=@Go.Proofs.Tryz.isAgg263
abbrev Jm:=@Go.Proofs.Tryz.isAgg286
abbrev Jn:=@Go.Proofs.Tryz.isAgg287
abbrev Jo:=@Go.Proofs.Tryz.underlying150
abbrev Jp:=@Go.Proofs.Tryz.underlying192
abbrev Jq:=@Go.IntKind.wrap_u64
abbrev Jr.{u}:=@List.drop_length.{u}
abbrev Js.{u}:=@List.flatten_nil.{u}
abbrev Jt:=@Int.le_trans
abbrev Ju:=@Int.sub_zero
abbrev Jv:=@Int.zero_mul
abbrev Jw:=@Nat.not_lt
abbrev Jy:=@Go.Proofs.Tryz.func116
abbrev Jz:=@Go.Proofs.Tryz.func118
abbrev Ka:=@Go.Proofs.Tryz.func144
abbrev Kb:=@Go.Proofs.Tryz.func177
abbrev Kc:=@Go.Proofs.Tryz.func178
abbrev Ke:=@Go.Proofs.Tryz.func217
abbrev Kg:=@Go.Proofs.Tryz.func218
abbrev Kh.{u}:=@if_true.{u}
abbrev Ki:=@Go.setRow_other
abbrev Kj:=@BitVec.toNat_or
abbrev Kl:=@Go.run_loadVar_row
abbrev Km:=@Int.add_mul
abbrev Kn:=@Int.mul_add
abbrev Ko.{u}:=@List.map_id.{u}
abbrev Kq:=@Nat.add_mod
abbrev Kr:=@Go.Proofs.Tryz.func16
abbrev Kt:=@Go.Proofs.Tryz.func20
abbrev Ku:=@Go.Proofs.Tryz.func25
abbrev Kv:=@Go.Proofs.Tryz.func30
abbrev Kw:=@Go.Proofs.Tryz.func61
abbrev Ky:=@Go.Proofs.Tryz.func79
abbrev Kz:=@Go.Proofs.Tryz.func83
abbrev La:=@Go.Proofs.Tryz.func98
abbrev Lb:=@Go.setRow_heap
abbrev AD:=List (List Int)
abbrev AE:=List (Int × Int)
abbrev AF:=Option Addr
abbrev AG:=List Value
abbrev AH:=List Int
abbrev AI:=Array Bool
theorem G{p:Prop}(h:p:=by omega):p:=h
theorem cA{p:Prop}(h:p:=by kernel_rfl):p:=h
theorem cC{p:Prop}(h:p:=by decide):p:=h
theorem cD{p:Prop}(h:p:=by simp):p:=h
theorem cE{p:Prop}(h:p:=by first |assumption|omega|decide):p:=h
theorem cF{p:Prop}(h:p:=by assumption):p:=h
theorem cG{p:Prop}(h:p:=by first |omega|(dsimp only;omega)):p:=h
theorem cH{p:Prop}(h:p:=by simp;omega):p:=h
end Go
namespace Go.Eng
theorem Z.{u} {α:Sort u} {a:α}:a=a:=rfl
end Go.Eng
namespace Go.Eng
open Go Go.RowKit
abbrev Env:=List (Nat × Value)
def lk:Env->Nat->Option Value
 |[],_=>none
 |(k,v)::r,t=>bif Nat.beq k t then some v else lk r t
def ev (L:Env):Operand->Option Value
 | .tmp t=>lk L t
 | .const v=>some v
 | .global g=>some (.pointer (some ⟨g,0,none⟩))
 | .func f=>some (.func (.func f) #[] #[])
structure Nd where
 n:Nat
 ds:List Deferred
 rd:Option Nat:=none
def NF (rd:Option Nat):Fence:= {Fence.wide with round:=rd}
def EP (o:Oper):Bool:=match o.op with| .defer _=>false|_=>true
def EQ:Option Nat->List Oper->Bool
 |none,_=>true
 |some _,l=>l.all EP
theorem aWk {P:Program} {rd:Option Nat} {o:Oper} {a:Act} {w:World} {K:Act->World->Prop} {Q:Exit->Act->World->Prop} (hd:rd=none\/EP o=true) (h:o.wp P a w K Q):o.wpIn (NF rd) 0 P a w K Q:=by
  refine⟨λ_ _=>trivial,?_⟩
  have e:o.semAt (NF rd).round a.eval=execOp a.eval o:=by
    rcases hd with rfl|hd
    · exact Oper.semAt_none _ _
    · exact Oper.semAt_eq _ _ _ (λc hc=>by simp[EP,hc] at hd)
  rw[e];unfold Oper.wp at h;generalize (execOp a.eval o).run P w=r at*;cases r with
  | ok x w'=>
    cases x<;>simp only[Oper.upon,Oper.uponIn] at h ⊢
    all_goals first
      |exact h
      |exact h.elim
      | (refine ⟨λh0=>(by cases h0),?_⟩
         exact callsIn_wide (n:=0).2 h)
      | (refine ⟨λh0=>(by cases h0),?_⟩
         intro c cs _;obtain⟨v,Su,hR,hs⟩:=h c cs
         exact⟨v,Su,hR,stepsIn_wide.2 hs⟩)
  |halt x w'=>cases x<;>simp only[Oper.upon,Oper.uponIn] at h ⊢ <;>exact h
theorem aGw {P:Program} {rd:Option Nat} {ops:Array Oper} {Q:Exit->Act->World->Prop} (hq: ¬LetsOut Q): ∀(l:List Oper) (a:Act) (w:World),EQ rd l=true->wpList P ops Q l a w->wpListIn (NF rd) 0 P ops Q l a w
 |[],_,_,_,h=>h
 | o::l,a,w,hd,h=>by
  have Ls:rd=none\/EP o=true:=by
   cases rd with
   |none=>exact .inl rfl
   |some _=>simp only[EQ,Fg,qh] at hd;exact .inr hd.1
  have Ro:EQ rd l=true:=by
   cases rd with
   |none=>rfl
   |some _=>simp only[EQ,Fg,qh] at hd;exact hd.2
  unfold wpList at h;unfold wpListIn;split
  ·rename_i hw;rw[dm hw] at h;rcases h with h|h
   ·exact aWk Ls (Oper.wp_mono (λa w h=>aGw hq l a w Ro h) h)
   ·exact absurd h.2 hq
  ·rename_i hw;rw[df hw] at h;exact⟨λ_ _=>trivial,aGw hq l _ _ Ro h⟩
theorem aEf {P:Program} {rd:Option Nat} {ops:Array Oper} {Q:Exit->Act->World->Prop} (hq: ¬LetsOut Q) (hd:EQ rd ops.toList=true): ∀(bo:Nat) (ab:AI) (a:Act) (w:World),wpAny P .any ops Q bo ab a w->wpAnyIn (NF rd) 0 P .any ops Q bo ab a w
 |0,_,_,_,h=>h
 | bo+1,ab,a,w,h=>by
  refine⟨h.1,λi hi=> ?_⟩;have h1:=h.2 i hi;unfold wpOp at h1;unfold wpOpIn;cases ho:ops[i]? with
  |none=>simp only[ho] at h1 ⊢;exact aEf hq hd bo _ _ _ h1
  | some o=>
   simp only[ho] at h1 ⊢
   have Ls:rd=none\/EP o=true:=by
    cases rd with
    |none=>exact .inl rfl
    |some _=>exact .inr (vw.1 hd o (Array.mem_toList_iff.2 (Array.mem_of_getElem? ho)))
   split
   ·rename_i hw;rw[dm hw] at h1;rcases h1 with h1|h1
    ·exact aWk Ls (Oper.wp_mono (λa w h=>aEf hq hd bo _ a w h) h1)
    ·exact absurd h1.2 hq
   ·rename_i hw;rw[df hw] at h1;exact⟨λ_ _=>trivial,aEf hq hd bo _ _ _ h1⟩
instance:Coe Nd Nat:=⟨Nd.n⟩
instance:Coe Nat Nd:=⟨λn=>⟨n,[],none⟩⟩
structure Sat (n:Nd) (L:Env) (a:Act):Prop where
 size:a.tmps.size=n.n
 defers:a.defers=n.ds
 val: ∀t v,lk L t=some v->a.tmps[t]? =some v
theorem Sat.getD {n:Nd} {L:Env} {a:Act} (h:Sat n L a) {t:Nat} {v:Value} (hx:lk L t=some v):a.tmps.getD t undef=v:=by
 rw[zk,h.val t v hx];rfl
theorem Sat.ev {n:Nd} {L:Env} {a:Act} (h:Sat n L a) {x:Operand} {v:Value} (hx:ev L x=some v):a.eval x=v:=by
 cases x with
 |tmp t=>exact h.getD hx
 |const u=>exact jg hx
 |global g=>exact jg hx
 |func f=>exact jg hx
theorem zQ {L:Env} {k t:Nat} {v u:Value} (h:lk ((k,v)::L) t=some u):(k=t/\v=u)\/(k≠t/\lk L t=some u):=by
 unfold lk at h;cases hb:Nat.beq k t with
 |true=>rw[hb] at h;exact .inl ⟨yo hb,jg h⟩
 |false=>rw[hb] at h;exact .inr ⟨Nat.ne_of_beq_eq_false hb,h⟩
theorem Sat.put {n:Nd} {L:Env} {a:Act} (h:Sat n L a) {d:Nat} (hd:Nat.blt d n=true) (v:Value):Sat n ((d,v)::L) (a.put (some d) v):=by
 have hd':d<n:=ak hd;refine⟨by simp[Act.put,h.size],by simp[Act.put,h.defers],λt u hu=> ?_⟩;rcases zQ hu with⟨rfl,rfl⟩|⟨cg,hl⟩
 ·simp[Act.put,h.size,hd']
 ·rw [<-h.val t u hl];simp[Act.put,cg]
def Sub (L1 L:Env):Prop:= ∀t v,lk L1 t=some v->lk L t=some v
theorem Sub.nil {L:Env}:Sub [] L:=λt v h=>by simp[lk] at h
theorem Sub.cons {L1 L:Env} {t:Nat} {v:Value} (h:lk L t=some v) (hs:Sub L1 L):Sub ((t,v)::L1) L:=by
 intro s u hu;rcases zQ hu with⟨rfl,rfl⟩|⟨_,hl⟩
 ·exact h
 ·exact hs s u hl
theorem Sub.refl (L:Env):Sub L L:=λ_ _ h=>h
theorem Sat.sub {n:Nd} {L L1:Env} {a:Act} (h:Sat n L a) (hs:Sub L1 L):Sat n L1 a:=⟨h.size,h.defers,λt v ht=>h.val t v (hs t v ht)⟩
structure Row where
 e:TypeId
 sz:Nat
 A:AF
 n:Nat
 c:Nat
 xs:AG
 ro:Bool:=false
def Row.lies (B:Nat) (w:World) (r:Row):Prop:=
 match r.ro with
 |false=>w.ownsRow B r.e r.sz (.slice r.A r.n r.c) r.n r.xs
 |true=> ∃g cur fr,r.A=some ⟨g,0,none⟩/\B<=g/\w.heap[g]? =some (.cells cur r.e fr)/\r.n<=maxLen/\r.n<=r.c/\r.xs.length=r.n*r.sz/\cur.toList.take (r.n*r.sz)=r.xs
def Row.apart (r r':Row):Prop:= ∀a a',r.A=some a->r'.A=some a'->a.block≠a'.block
theorem Row.apart_symm {r r':Row} (h:r.apart r'):r'.apart r:=λa a' h1 h2=>Ir (h a' a h2 h1)
def aBl:Obj->Bool
 | .cells .. =>false
 |_=>true
def Late (w0 w:World):Prop:=w0.drawn<=w.drawn/\ ∀(k:Nat) (o:Obj),w0.heap[k]? =some o->aBl o=true->w.heap[k]? =some o
theorem Late.refl (w:World):Late w w:=⟨ed _,λ_ _ h _=>h⟩
theorem Late.trans {w0 w w':World} (h:Late w0 w) (h':Late w w'):Late w0 w':=⟨qm h.1 h'.1,λk o h1 h2=>h'.2 k o (h.2 k o h1 h2) h2⟩
theorem Late.draws {w:World} {k:Nat} (h:w.drawn<=k):Late w {w with drawn:=k}:=⟨h,λ_ _ h _=>h⟩
theorem Late.alloc (w:World) (o:Obj):Late w (w.alloc o):=⟨ed _,λk _ h _=>by
 have br:k<w.heap.size:=(gu.1 h).1;unfold World.alloc;rw[Array.getElem?_push,df G]
 exact h⟩
structure Hp (B:Nat) (w0 w:World) (R:List Row):Prop where
 below:Below B w0 w
 base:B<=w.heap.size
 own: ∀r∈R,r.lies B w
 apart:R.Pairwise Row.apart
 late:Late w0 w
theorem Hp.refl (w:World):Hp w.heap.size w w []:=⟨Ey _ _,ed _,λ_ h=>(by cases h), .nil,Late.refl _⟩
theorem Hp.tail {B:Nat} {w0 w:World} {r:Row} {R:List Row} (h:Hp B w0 w (r::R)):Hp B w0 w R:=
 ⟨h.below,h.base,λq hq=>h.own q (.tail _ hq),(ja.1 h.apart).2,h.late⟩
theorem Hp.right {B:Nat} {w0 w:World} {R' R:List Row} (h:Hp B w0 w (R'++R)):Hp B w0 w R:=by
 induction R' with
 |nil=>exact h
 |cons r R' ih=>exact ih h.tail
theorem Hp.perm {B:Nat} {w0 w:World} {R R':List Row} (h:Hp B w0 w R) (hp:R.Perm R'):Hp B w0 w R':=
 ⟨h.below,h.base,λq hq=>h.own q (hp.mem_iff.2 hq),hp.pairwise h.apart Row.apart_symm,h.late⟩
theorem Hp.sublist {B:Nat} {w0 w:World} {R R':List Row} (h:Hp B w0 w R) (hs:R'.Sublist R):Hp B w0 w R':=
 ⟨h.below,h.base,λq hq=>h.own q (hs.subset hq),h.apart.sublist hs,h.late⟩
theorem Hp.sel {B:Nat} {w0 w:World} {R:List Row} (h:Hp B w0 w R) (is:List Nat) (hn:is.Nodup) {R':List Row} (hR:is.map (λi=>R[i]?)=R'.map some):Hp B w0 w R':=by
 refine⟨h.below,h.base,λq hq=> ?_,?_,h.late⟩
 ·have h1:some q∈R'.map some:=ii.2 ⟨q,hq,rfl⟩;rw[<-hR] at h1;obtain⟨i,_,hi⟩:=ii.1 h1;exact h.own q (gq hi)
 ·have h1:(R'.map some).Pairwise (λx y=> ∀r r',x=some r->y=some r'->Row.apart r r'):=by
   rw[<-hR];refine ik.2 (hn.imp ?_);intro i j cg r r' hi hj;rcases Dk cg with br|br
   ·exact dz.1 h.apart i j (fw.1 hi).1 (fw.1 hj).1 br|>λhh=>by
     rw[(fw.1 hi).2,(fw.1 hj).2] at hh;exact hh
   ·exact Row.apart_symm (dz.1 h.apart j i (fw.1 hj).1 (fw.1 hi).1 br|>λhh=>by
     rw[(fw.1 hi).2,(fw.1 hj).2] at hh;exact hh)
  exact(ik.1 h1).imp λhh=>hh _ _ rfl rfl
theorem Hp.drawn {B:Nat} {w0 w:World} {R:List Row} (h:Hp B w0 w R) (k:Nat) (hk:w.drawn<=k):Hp B w0 {w with drawn:=k} R:=
 ⟨⟨h.below.os,h.below.tape,h.below.output,h.below.size,h.below.block⟩,h.base,λr hr=>by
  have:=h.own r hr;unfold Row.lies at*
  cases ns:r.ro<;>simp only[ns] at this ⊢ <;>exact this,h.apart,h.late.trans (Late.draws hk)⟩
theorem Row.lies_cells {B:Nat} {w:World} {r:Row} (h:r.lies B w) {a:Addr} (ha:r.A=some a): ∃cs e fr,w.heap[a.block]? =some (.cells cs e fr):=by
 unfold Row.lies at h;cases ns:r.ro with
 | false=>
  simp only[ns] at h;rcases h.2 with⟨hv,_⟩|⟨g,cap,cur,hv,_,hg,_⟩
  ·simp only[ko] at hv;rw[hv.1] at ha;cases ha
  ·simp only[ko] at hv;rw[hv.1] at ha;obtain rfl:=jg ha;exact⟨_,_,_,hg⟩
 |true=>
  simp only[ns] at h;obtain⟨g,cur,fr,hA,_,hg,_⟩:=h;rw[hA] at ha;obtain rfl:=jg ha;exact⟨_,_,_,hg⟩
theorem Row.lies_of_block {B:Nat} {w w':World} {r:Row} (h:r.lies B w) (hk: ∀a,r.A=some a->w'.heap[a.block]? =w.heap[a.block]?):r.lies B w':=by
 unfold Row.lies at*;cases ns:r.ro with
 | false=>
  simp only[ns] at h ⊢;refine⟨h.1,?_⟩;rcases h.2 with hn|⟨g,cap,cur,hv,hb,hg,rest⟩
  ·exact .inl hn
  ·refine .inr ⟨g,cap,cur,hv,hb,?_,rest⟩;have hA:r.A=some ⟨g,0,none⟩:=by injection hv
   rw[hk _ hA];exact hg
 |true=>
  simp only[ns] at h ⊢;obtain⟨g,cur,fr,hA,hb,hg,rest⟩:=h;exact⟨g,cur,fr,hA,hb,by rw[hk _ hA];exact hg,rest⟩
theorem Row.lies_lt {B:Nat} {w:World} {r:Row} (h:r.lies B w): ∀a,r.A=some a->B<=a.block/\a.block<w.heap.size:=by
 intro a ha;unfold Row.lies at h;cases ns:r.ro with
 |false=>
  simp only[ns] at h;exact h.lt a.block (by simp[Value.ownBlock,ha])
 |true=>
  simp only[ns] at h;obtain⟨g,cur,fr,hA,hb,hg,_⟩:=h;rw[hA] at ha;obtain rfl:=jg ha;exact⟨hb,(gu.1 hg).1⟩
theorem Hp.join {B:Nat} {w0 w w':World} {R Rn:List Row} (h:Hp B w0 w R) (h':Hp w.heap.size w w' Rn):Hp B w0 w' (Rn++R):=by
 refine⟨h.below.trans (h'.below.mono h.base),qm h.base h'.base,λr hr=> ?_,?_,h.late.trans h'.late⟩
 ·rcases ek.1 hr with hr|hr
  ·have h1:=h'.own r hr;unfold Row.lies at*;cases ns:r.ro with
   |false=>
    simp only[ns] at h1 ⊢;refine⟨h1.1,?_⟩;rcases h1.2 with hn|⟨g,cap,cur,hv,hb,rest⟩
    ·exact .inl hn
    ·exact .inr ⟨g,cap,cur,hv,qm h.base hb,rest⟩
   |true=>
    simp only[ns] at h1 ⊢;obtain⟨g,cur,fr,hA,hb,rest⟩:=h1;exact⟨g,cur,fr,hA,qm h.base hb,rest⟩
  ·have h1:=h.own r hr;exact Row.lies_of_block h1 λa ha=>h'.below.block a.block (Row.lies_lt h1 a ha).2
 ·refine ku.2 ⟨h'.apart,h.apart,λr hr q hq a a' ha oe=> ?_⟩;have h1:=(Row.lies_lt (h'.own r hr) a ha).1;have h2:=(Row.lies_lt (h.own q hq) a' oe).2;omega
theorem RG {α:Type}: ∀(a:Ask α) (w:World),w.drawn<=(w.ask a).2.drawn
 | .done _,_=>ed _
 | .ask what range k,w=>by
  unfold World.ask;simp only;split
  ·exact RG _ _
  ·exact qm (Ip _) (RG _ {w with drawn:=w.drawn+1})
theorem aTw (w:World) (c:Sys):w.drawn<=(w.sys c).2.drawn:=by
 have h:=RG (Kernel.perform c w.os) w;unfold World.sys;split
 ·exact ed _
 ·rename_i he;rw[he] at h;exact h
theorem bFi {ε α β:Type} {x:Except ε α} {f:α->Except ε β} {r:β} (h:Except.bind x f= .ok r): ∃a,f a= .ok r:=by
 cases x with
 |error e=>cases h
 |ok a=>exact⟨a,h⟩
theorem aNd {P:Program} {w:World} {b a:Addr} {u:TypeId} {v:Value} {c:Bool} {r:World × List Addr} (h:w.viewStore P b u a v c= .ok r):r.1.drawn=w.drawn:=by
 unfold World.viewStore at h;simp only[bind,pure,Except.pure] at h
 repeat' first
  |(cases h;done)
  |(split at h)
  |(replace h:=bFi h;cases h;rename_i h)
 all_goals (simp only[Except.ok.injEq] at h;rw[<-h])
theorem aYp {P:Program} {w:World} {a:Addr} {v:Value} {b:Bool} {r:World × List Addr} (h:w.farStore P a v b= .ok r):r.1.drawn=w.drawn:=by
 unfold World.farStore at h;split at h
 ·split at h
  ·rename_i hv;simp only[Except.ok.injEq] at h;rw[<-h];exact aNd hv
  ·cases h
 ·cases h
theorem NS {α:Type} {P:Program}: ∀(m:Sem α) (w w':World) (a:α),m.run P w= .ok a w'->w.drawn<=w'.drawn:=by
  intro m
  induction m with
  |pure a=>intro w w' b h;simp only[Sem.run,Dc] at h;rw[h.2];exact ed _
  | load m a k ih=>
    intro w w' b h;simp only[Sem.run] at h;split at h
    · exact ih _ _ _ _ h
    · split at h
      · exact ih _ _ _ _ h
      · cases h
  | store m a v k ih=>
    intro w w' b h;cases v<;>simp only[Sem.run] at h
    all_goals first
      |(cases h;done)
      | (split at h
         · split at h
           · cases h
           · have h1:=ih _ _ _ h
             exact h1
         · split at h
           · rename_i hf
             have h1:=ih _ _ _ h;have h2:=aYp hf;simp only at h2;rw[h2] at h1;exact h1
           · cases h)
  |new o k ih=>intro w w' b h;have h1:=ih w.heap.size {w with heap:=w.heap.push o} w' b h;exact h1
  |shape r k ih=>intro w w' b h;exact ih _ _ _ _ h
  | freeze a n k ih=>
    intro w w' b h;have:=ih _ _ _ h;have e:(w.freeze a n).drawn=w.drawn:=by unfold World.freeze;split<;>rfl
    rwa[e] at this
  |frozen a k ih=>intro w w' b h;exact ih _ _ _ _ h
  | getObj r k ih=>
    intro w w' b h;simp only[Sem.run] at h;split at h
    · cases h
    · exact ih _ _ _ _ h
    · cases h
  | setObj r o k ih=>
    intro w w' b h;simp only[Sem.run] at h;split at h
    · cases h
    · have h1:=ih _ _ _ h
      exact h1
    · cases h
  | choose q k ih=>
    intro w w' b h;simp only[Sem.run] at h;split at h
    · exact ih _ _ _ _ h
    · exact qm (Ip _) (ih _ _ _ _ h)
  | sys c k ih=>
    intro w w' b h;exact qm (aTw w c) (ih _ _ _ _ h)
  |program k ih=>intro w w' b h;exact ih _ _ _ _ h
  |mark m k ih=>intro w w' b h;exact ih _ _ _ h
  |halt x=>intro w w' b h;cases h
structure Rd (w:World) (A:AF) (n c sz:Nat) (xs:AG):Prop where
 len:xs.length=n*sz
 max:n<=9223372036854775807
 le:n<=c
 at_: ∀j v,xs[j]? =some v-> ∃a,A=some a/\w.cell? (a.add j)=some v
def RdC (B:Nat) (w0:World) (R:List Row) (A:AF) (n c sz:Nat) (xs:AG):Prop:= ∀w,Hp B w0 w R->Rd w A n c sz xs
theorem Rd.below {w w':World} {A:AF} {n c sz:Nat} {xs:AG} (h:Rd w A n c sz xs) (hb:Below w.heap.size w w'):Rd w' A n c sz xs:=
 ⟨h.len,h.max,h.le,λj v hv=>by
  obtain⟨a,ha,hc⟩:=h.at_ j v hv
  exact⟨a,ha,(hb.cell (World.block_lt_of_cell? w _ hc)).trans hc⟩⟩
theorem Rd.c {w:World} {A:AF} {n c sz:Nat} {xs:AG} (h:Rd w A n c sz xs) (R:List Row):RdC w.heap.size w R A n c sz xs:=λ_ hw=>h.below hw.below
theorem Row.rd {B:Nat} {w:World} {r:Row} (h:r.lies B w):Rd w r.A r.n r.c r.sz r.xs:=by
 unfold Row.lies at h;cases ns:r.ro with
 | false=>
  simp only[ns] at h;refine⟨h.1,?_,?_,λj v hv=> ?_⟩
  ·rcases h.2 with⟨_,hn⟩|⟨g,cap,cur,_,_,_,h1,h2,_⟩
   ·omega
   ·unfold maxLen at h2;omega
  ·rcases h.2 with⟨_,hn⟩|⟨g,cap,cur,hv,_,_,h1,h2,_⟩
   ·omega
   ·simp only[ko] at hv;omega
  ·rcases h.2 with⟨Tv,hn⟩|⟨g,cap,cur,Tv,_⟩
   ·have:r.xs.length=0:=by rw[h.1,hn];omega
    rw[ng G] at hv;cases hv
   ·have hA:r.A=some ⟨g,0,none⟩:=by injection Tv
    exact⟨_,hA,h.cells (g:=g) (by simp[Value.ownBlock,hA]) j v hv⟩
 |true=>
  simp only[ns] at h;obtain⟨g,cur,fr,hA,_,hg,hm,hc,hl,ht⟩:=h;unfold maxLen at hm;refine⟨hl,hm,hc,λj v hv=>⟨_,hA,?_⟩⟩;have Oj:(⟨g,0,none⟩:Addr).add j=⟨g,j,none⟩:=by unfold Addr.add;split<;>simp_all
  rw[Oj,cell_of_row w g j cur r.e fr hg];rw[<-ht,qb] at hv;split at hv
  ·simpa using hv
  ·cases hv
theorem rdR {B:Nat} {w0:World} {R:List Row} (i:Nat) {r:Row} (hi:R[i]? =some r):RdC B w0 R r.A r.n r.c r.sz r.xs:=λ_ hw=>Row.rd (hw.own r (gq hi))
theorem rdr {B:Nat} {w0:World} {R:List Row} (i:Nat) {e sz:Nat} {A:AF} {n c:Nat} {xs:AG} {ro:Bool} (hi:R[i]? =some ⟨e,sz,A,n,c,xs,ro⟩):RdC B w0 R A n c sz xs:=rdR i hi
theorem RdC.right {B:Nat} {w0:World} {R:List Row} {A:AF} {n c sz:Nat} {xs:AG} (h:RdC B w0 R A n c sz xs) (R':List Row):RdC B w0 (R'++R) A n c sz xs:=λw hw=>h w hw.right
theorem RdC.tail {B:Nat} {w0:World} {R:List Row} {A:AF} {n c sz:Nat} {xs:AG} (h:RdC B w0 R A n c sz xs) {r:Row}:RdC B w0 (r::R) A n c sz xs:=λw hw=>h w hw.tail
structure gF where
 nrm:Env->List Row->Prop
 ret:Env->List Row->Prop
 ext:Nat->Env->List Row->Prop
section
variable {P:Program} {n:Nd} {B:Nat} {w0:World}
def PQ (n:Nd) (B:Nat) (w0:World) (Q:gF):Exit->Act->World->Prop
 | .normal,a,w=> ∃L R,Sat n L a/\Hp B w0 w R/\Q.nrm L R
 | .ret,a,w=> ∃L R,Sat n L a/\Hp B w0 w R/\Q.ret L R
 | .exit i,a,w=> ∃L R,Sat n L a/\Hp B w0 w R/\Q.ext i L R
 |_,_,_=>False
def W (P:Program) (n:Nd) (B:Nat) (w0:World) (c:Code) (Q:gF) (L:Env) (R:List Row):Prop:=
 ∀a w,Sat n L a->Hp B w0 w R->c.wpIn (NF n.rd) 0 P (PQ n B w0 Q) a w
theorem aD {x y:Code} {Q:gF} {L:Env} {R:List Row} (h:W P n B w0 x {Q with nrm:=λL R=>W P n B w0 y Q L R} L R):W P n B w0 (.seq x y) Q L R:=by
 intro a w hs hp;refine wpIn_seq (Bb (h a w hs hp) ?_);intro e a' w' hq;cases e with
 |normal=>obtain⟨L',R',en,cr,hw⟩:=hq;exact hw a' w' en cr
 |exit id=>exact hq
 |goto l=>exact hq
 |ret=>exact hq
 |panic ch=>exact hq
 |outgrown=>exact hq
theorem aG {id:Nat} {c:Code} {Q:gF} {L:Env} {R:List Row} (h:W P n B w0 c {Q with ext:=λi L R=>bif Nat.beq i id then Q.nrm L R else Q.ext i L R} L R):W P n B w0 (.block id c) Q L R:=by
 intro a w hs hp;refine wpIn_block (Bb (h a w hs hp) ?_);intro e a' w' hq;cases e with
 |normal=>exact hq
 | exit i=>
  obtain⟨L',R',en,cr,hw⟩:=hq;simp only[Exit.inBlock];by_cases hi:i=id
  ·subst hi;rw[dm rfl];exact⟨L',R',en,cr,by simpa using hw⟩
  ·rw [df hi]
   have hb:Nat.beq i id=false:=by
    cases hb:Nat.beq i id with
    |true=>exact absurd (yo hb) hi
    |false=>rfl
   dsimp only at hw;rw[hb] at hw;exact⟨L',R',en,cr,hw⟩
 |goto l=>exact hq
 |ret=>exact hq
 |panic ch=>exact hq
 |outgrown=>exact hq
theorem aR {id:Nat} {Q:gF} {L:Env} {R:List Row} (h:Q.ext id L R):W P n B w0 (.exit id) Q L R:=
 λ_ _ hs hp=>wpIn_exit ⟨L,R,hs,hp,h⟩
theorem bK {Q:gF} {L:Env} {R:List Row} (h:Q.ret L R):W P n B w0 .ret Q L R:=λ_ _ hs hp=>wpIn_ret ⟨L,R,hs,hp,h⟩
theorem aI {Q:gF} {L:Env} {R:List Row} (h:Q.nrm L R):W P n B w0 .skip Q L R:=λ_ _ hs hp=>wpIn_skip ⟨L,R,hs,hp,h⟩
theorem MS {c:Operand} {x y:Code} {Q:gF} {L:Env} {R:List Row} {b:Bool} (hc:ev L c=some (.bool b)) (hx:b=true->W P n B w0 x Q L R) (hy:b=false->W P n B w0 y Q L R):W P n B w0 (.cond c x y) Q L R:=
 λa w hs hp=>wpIn_cond_split (hs.ev hc) (λhb=>hx hb a w hs hp) (λhb=>hy hb a w hs hp)
theorem aX {c:Operand} {x y:Code} {Q:gF} {L:Env} {R:List Row} {p:Prop} [Decidable p] (hc:ev L c=some (.bool (decide p))) (hx:p->W P n B w0 x Q L R) (hy: ¬p->W P n B w0 y Q L R):W P n B w0 (.cond c x y) Q L R:=
 MS hc (λh=>hx (zh h)) (λh=>hy (of_decide_eq_false h))
theorem dG {c:Operand} {x y:Code} {Q:gF} {L:Env} {R:List Row} (hc:ev L c=some (.bool true)) (hx:W P n B w0 x Q L R):W P n B w0 (.cond c x y) Q L R:=MS hc (λ_=>hx) (λh=>by cases h)
theorem aP {c:Operand} {x y:Code} {Q:gF} {L:Env} {R:List Row} (hc:ev L c=some (.bool false)) (hy:W P n B w0 y Q L R):W P n B w0 (.cond c x y) Q L R:=MS hc (λh=>by cases h) (λ_=>hy)
theorem aTb {c:Code} {Q:gF} {L L1:Env} {R R1:List Row} (hL:Sub L1 L) (hR: ∀w,Hp B w0 w R->Hp B w0 w R1) (h:W P n B w0 c Q L1 R1):W P n B w0 c Q L R:=
 λa w hs hp=>h a w (hs.sub hL) (hR w hp)
theorem jA {c:Code} {Q Q':gF} {L:Env} {R:List Row} (h:W P n B w0 c Q L R) (h1: ∀L R,Q.nrm L R->Q'.nrm L R) (h2: ∀L R,Q.ret L R->Q'.ret L R) (h3: ∀i L R,Q.ext i L R->Q'.ext i L R):W P n B w0 c Q' L R:=by
 intro a w hs hp;refine Bb (h a w hs hp) ?_;intro e a' w' hq;cases e with
 |normal=>obtain⟨L',R',en,cr,hw⟩:=hq;exact⟨L',R',en,cr,h1 _ _ hw⟩
 |exit id=>obtain⟨L',R',en,cr,hw⟩:=hq;exact⟨L',R',en,cr,h3 _ _ _ hw⟩
 |goto l=>exact hq
 |ret=>obtain⟨L',R',en,cr,hw⟩:=hq;exact⟨L',R',en,cr,h2 _ _ hw⟩
 |panic ch=>exact hq
 |outgrown=>exact hq
def Fam {σ:Type} (B:Nat) (w0:World) (Lx:σ->Env) (Rx:σ->List Row) (J:σ->Prop) (L:Env) (R:List Row):Prop:=
 ∃x,J x/\Sub (Lx x) L/\ ∀w,Hp B w0 w R->Hp B w0 w (Rx x)
theorem qN {σ:Type} {c:Code} {Q:gF} {L:Env} {R:List Row} (Lx:σ->Env) (Rx:σ->List Row) (J:σ->Prop) (μ:σ->Nat)
  (h0:Fam B w0 Lx Rx J L R)
  (round: ∀x,J x->W P n B w0 c {Q with nrm:=Fam B w0 Lx Rx (λy=>J y/\μ y<μ x)} (Lx x) (Rx x)):W P n B w0 (.loop c) Q L R:=by
 intro a w hs hp;obtain⟨x0,Ds,hL0,Od⟩:=h0;refine wpIn_loop_ghost (λk a w=> ∃x,μ x=k/\J x/\Sat n (Lx x) a/\Hp B w0 w (Rx x)) (μ x0) ⟨x0,rfl,Ds,hs.sub hL0,Od w hp⟩ ?_;rintro k a w ⟨x,rfl,hJ,hs,hp⟩;refine Bb (round x hJ a w hs hp) ?_;intro e a' w' hq;cases e with
 |normal=>
  obtain⟨L',R',en,cr,y,⟨hJy,br⟩,hLy,hRy⟩:=hq;exact⟨μ y,br,y,rfl,hJy,en.sub hLy,hRy _ cr⟩
 |exit id=>exact hq
 |goto l=>exact hq
 |ret=>exact hq
 |panic ch=>exact hq
 |outgrown=>exact hq
def Ct (P:Program) (f:FuncId) (args:Array Value) (B:Nat) (w0:World) (R:List Row) (Post:Value->List Row->Prop):Prop:=
 ∀w,Hp B w0 w R->Calls P f args w λe w'=> ∃v R',e= .returned v/\Hp B w0 w' R'/\Post v R'
theorem Ct.mono {f:FuncId} {args:Array Value} {R:List Row} {Post Po:Value->List Row->Prop} (h:Ct P f args B w0 R Post) (hp: ∀v R',Post v R'->Po v R'):Ct P f args B w0 R Po:=
 λw hw=>(h w hw).mono λ_ _ ⟨v,R',he,hh,hv⟩=>⟨v,R',he,hh,hp _ _ hv⟩
theorem Ct.fresh {f:FuncId} {args:Array Value} {R:List Row} {Post:Value->List Row->Prop} (h: ∀w,Hp B w0 w R->Ct P f args w.heap.size w [] Post):
  Ct P f args B w0 R (λv R'=> ∃Rn,R'=Rn++R/\Post v Rn):=
 λw hw=>(h w hw w (Hp.refl w)).mono λ_ _ ⟨v,Rn,he,hh,hv⟩=>⟨v,Rn++R,he,hw.join hh,Rn,rfl,hv⟩
theorem Ct.sub {f:FuncId} {args:Array Value} {R R1:List Row} {Post:Value->List Row->Prop} (hR: ∀w,Hp B w0 w R->Hp B w0 w R1) (h:Ct P f args B w0 R1 Post):Ct P f args B w0 R Post:=
 λw hw=>h w (hR w hw)
def ini:Nat->AG->Env
 |_,[]=>[]
 |k,v::vs=>(k,v)::ini (k+1) vs
theorem XN: ∀(vs:AG) (k t:Nat) (v:Value),lk (ini k vs) t=some v->k<=t/\vs[t-k]? =some v:=by
 intro vs
 induction vs with
 |nil=>intro k t v h;simp[ini,lk] at h
 | cons u us ih=>
  intro k t v h;rcases zQ h with⟨rfl,rfl⟩|⟨_,hl⟩
  ·simp
  ·obtain ⟨h1,h2⟩:=ih (k+1) t v hl;refine⟨G,?_⟩;have:t-k=(t-(k+1))+1:=G
   rw[this];simpa using h2
theorem aLk {f:FuncId} {fn:Func} {c:Code} {args:AG} {R:List Row} {Post:Value->List Row->Prop} (hf:P.funcs[f]? =some fn) (hb:fn.body=some c) (hl:Nat.ble args.length fn.ntmps=true)
  {Rt:Env->Option Value} (Ph: ∀L a w v,Sat fn.ntmps L a->Rt L=some v->(results fn a.tmps).run P w= .ok v w)
  (h:W P fn.ntmps B w0 c ⟨λL R'=> ∃v,Rt L=some v/\Post v R',λL R'=> ∃v,Rt L=some v/\Post v R',λ_ _ _=>False⟩ (ini 0 args) R):Ct P f args.toArray B w0 R Post:=by
 intro w hw;have Sa:args.length<=fn.ntmps:=ak hl;refine calls_of_wp hf hb (wp_mono (wpIn_wide.1 (h _ w ⟨cH,rfl,λt v ht=> ?_⟩ hw)) ?_)
 ·obtain ⟨_,h2⟩:=XN args 0 t v ht;simp only[yg] at h2;have br:=(fw.1 h2).1;rw[<-h2];simp[zx,br]
 ·intro e a' w' hq;cases e with
  |normal=>obtain⟨L',R',en,cr,v,hv,mn⟩:=hq;exact⟨en.defers,v,Ph _ _ _ _ en hv,v,R',rfl,cr,mn⟩
  |ret=>obtain⟨L',R',en,cr,v,hv,mn⟩:=hq;exact⟨en.defers,v,Ph _ _ _ _ en hv,v,R',rfl,cr,mn⟩
  |exit id=>obtain⟨_,_,_,_,h⟩:=hq;exact h.elim
  |goto l=>exact hq
  |panic ch=>exact hq.elim
  |outgrown=>exact hq.elim
theorem fn0 {f:FuncId} {fn:Func} {c:Code} {args:AG} {R:List Row} {Post:Value->List Row->Prop} (hf:P.funcs[f]? =some fn) (hb:fn.body=some c) (hr:fn.results= #[]) (hl:Nat.ble args.length fn.ntmps=true)
  (h:W P fn.ntmps B w0 c ⟨λ_ R'=>Post (.tuple #[]) R',λ_ R'=>Post (.tuple #[]) R',λ_ _ _=>False⟩ (ini 0 args) R):Ct P f args.toArray B w0 R Post:=
 aLk hf hb hl (Rt:=λ_=>some (.tuple #[])) (λ_ _ _ v _ hv=>by obtain rfl:=jg hv;exact results_none hr _ _ _) (by simpa using h)
theorem fn1 {f:FuncId} {fn:Func} {c:Code} {args:AG} {R:List Row} {Post:Value->List Row->Prop} {r:Nat} (hf:P.funcs[f]? =some fn) (hb:fn.body=some c) (hr:fn.results= #[.tmp r]) (hl:Nat.ble args.length fn.ntmps=true)
  (h:W P fn.ntmps B w0 c ⟨λL R'=> ∃v,lk L r=some v/\Post v R',λL R'=> ∃v,lk L r=some v/\Post v R',λ_ _ _=>False⟩ (ini 0 args) R):Ct P f args.toArray B w0 R Post:=
 aLk hf hb hl (Rt:=λL=>lk L r) (λ_ _ _ v hs hv=>by rw[results_tmp hr,hs.getD hv]) h
theorem fn2 {f:FuncId} {fn:Func} {c:Code} {args:AG} {R:List Row} {Post:Value->List Row->Prop} {r s:Nat} (hf:P.funcs[f]? =some fn) (hb:fn.body=some c) (hr:fn.results= #[.tmp r, .tmp s]) (hl:Nat.ble args.length fn.ntmps=true)
  (h:W P fn.ntmps B w0 c ⟨λL R'=> ∃v u,lk L r=some v/\lk L s=some u/\Post (.tuple #[v,u]) R',λL R'=> ∃v u,lk L r=some v/\lk L s=some u/\Post (.tuple #[v,u]) R',λ_ _ _=>False⟩ (ini 0 args) R):Ct P f args.toArray B w0 R Post:=by
 refine aLk hf hb hl (Rt:=λL=>(lk L r).bind λv=>(lk L s).map λu=> .tuple #[v,u]) (λL a w v hs hv=> ?_) (jA h ?_ ?_ (λ_ _ _ h=>h))
 ·obtain ⟨x,hx,hv⟩:=Dx.1 hv;obtain⟨u,hu,rfl⟩:=je.1 hv;rw[results_tmp2 hr,hs.getD hx,hs.getD hu]
 ·rintro L R' ⟨v,u,hv,hu,hp⟩;exact⟨_,by simp[hv,hu],hp⟩
 ·rintro L R' ⟨v,u,hv,hu,hp⟩;exact⟨_,by simp[hv,hu],hp⟩
theorem fn3 {f:FuncId} {fn:Func} {c:Code} {args:AG} {R:List Row} {Post:Value->List Row->Prop} {r s t:Nat} (hf:P.funcs[f]? =some fn) (hb:fn.body=some c) (hr:fn.results= #[.tmp r, .tmp s, .tmp t]) (hl:Nat.ble args.length fn.ntmps=true)
  (h:W P fn.ntmps B w0 c ⟨λL R'=> ∃v u x,lk L r=some v/\lk L s=some u/\lk L t=some x/\Post (.tuple #[v,u,x]) R',λL R'=> ∃v u x,lk L r=some v/\lk L s=some u/\lk L t=some x/\Post (.tuple #[v,u,x]) R',λ_ _ _=>False⟩ (ini 0 args) R):Ct P f args.toArray B w0 R Post:=by
 refine aLk hf hb hl (Rt:=λL=>(lk L r).bind λv=>(lk L s).bind λu=>(lk L t).map λx=> .tuple #[v,u,x]) (λL a w v hs hv=> ?_) (jA h ?_ ?_ (λ_ _ _ h=>h))
 ·obtain ⟨x,hx,hv⟩:=Dx.1 hv;obtain⟨u,hu,hv⟩:=Dx.1 hv;obtain⟨y,hy,rfl⟩:=je.1 hv;simp[results,hr,hs.val r x hx,hs.val s u hu,hs.val t y hy]
 ·rintro L R' ⟨v,u,x,hv,hu,hx,hp⟩;exact⟨_,by simp[hv,hu,hx],hp⟩
 ·rintro L R' ⟨v,u,x,hv,hu,hx,hp⟩;exact⟨_,by simp[hv,hu,hx],hp⟩
def WR (P:Program) (n:Nd) (B:Nat) (w0:World) (ops:Array Oper) (l:List Oper) (K:Env->List Row->Prop) (L:Env) (R:List Row):Prop:=
 ∀a w (Q:Exit->Act->World->Prop),Sat n L a->Hp B w0 w R->(∀a' w' L' R',Sat n L' a'->Hp B w0 w' R'->K L' R'->Q .normal a' w')->wpList P ops Q l a w
theorem aJj {Q:gF}: ¬LetsOut (PQ n B w0 Q):=λ⟨_,_,h⟩=>h
theorem aK {id:Nat} {l:List Oper} {Q:gF} {L:Env} {R:List Row} (h:WR P n B w0 l.toArray l Q.nrm L R) (hd:EQ n.rd l=true:=by exact rfl):W P n B w0 (.region id l.toArray false) Q L R:=
 λa w hs hp=>wpIn_region_lit (aGw aJj l a w hd (h a w _ hs hp λ_ _ L' R' en cr hk=>⟨L',R',en,cr,hk⟩))
variable {ops:Array Oper} {l:List Oper} {K:Env->List Row->Prop} {L:Env} {R:List Row} {op:Op} {ty:TypeId} {pos:String} {ph:Array Edge}
theorem aA (h:K L R):WR P n B w0 ops [] K L R:=λ_ _ _ hs hp hq=>wpList_nil (hq _ _ L R hs hp h)
def Yl (P:Program) (n:Nd) (B:Nat) (w0:World) (op:Op) (ty:TypeId) (L:Env) (R:List Row) (v:Value):Prop:=
 ∀(a:Act) (w:World) (o:Oper),o.op=op->o.type=ty->Sat n L a->Hp B w0 w R->(execOp a.eval o).run P w= .ok (.value v) w
def Ac (P:Program) (n:Nd) (B:Nat) (w0:World) (op:Op) (ty:TypeId) (L:Env) (R:List Row) (Post:Value->List Row->Prop):Prop:=
 ∀(a:Act) (w:World) (o:Oper) (K:Act->World->Prop) (Q:Exit->Act->World->Prop),o.op=op->o.type=ty->Sat n L a->Hp B w0 w R->(∀v w' R',Hp B w0 w' R'->Post v R'->K (a.put o.dst v) w')->o.wp P a w K Q
theorem WF {d:Nat} {v:Value} (hn:Nat.blt d n=true) (hy:Yl P n B w0 op ty L R v) (h:WR P n B w0 ops l K ((d,v)::L) R):WR P n B w0 ops ({dst:=some d,op:=op,type:=ty,pos:=pos,after:=ph,guard:=none}::l) K L R:=by
 intro a w Q hs hp hq;refine wpList_plain rfl λK' Uy=> ?_;unfold Oper.wp;rw[hy a w _ rfl rfl hs hp];exact Uy _ _ (h _ _ Q (hs.put hn v) hp hq)
theorem bQz {d:Nat} {Post:Value->List Row->Prop} (hn:Nat.blt d n=true) (ha:Ac P n B w0 op ty L R Post) (h: ∀v R',Post v R'->WR P n B w0 ops l K ((d,v)::L) R'):WR P n B w0 ops ({dst:=some d,op:=op,type:=ty,pos:=pos,after:=ph,guard:=none}::l) K L R:=by
 intro a w Q hs hp hq;refine wpList_plain rfl λK' Uy=> ?_;exact ha a w _ K' Q rfl rfl hs hp λv w' R' cr hv=>Uy _ _ (h v R' hv _ _ Q (hs.put hn v) cr hq)
theorem bZ {Post:Value->List Row->Prop} (ha:Ac P n B w0 op ty L R Post) (h: ∀v R',Post v R'->WR P n B w0 ops l K L R'):WR P n B w0 ops ({dst:=none,op:=op,type:=ty,pos:=pos,after:=ph,guard:=none}::l) K L R:=by
 intro a w Q hs hp hq;refine wpList_plain rfl λK' Uy=> ?_;exact ha a w _ K' Q rfl rfl hs hp λv w' R' cr hv=>Uy _ _ (h v R' hv _ _ Q hs cr hq)
theorem rU {j d:Nat} {b:Bool} {a:Act} (hs:Sat n L a) (hj:(ops[j]?).bind (·.dst)=some d) (hb:lk L d=some (.bool b)):yielded ops a.tmps j=some b:=by
 unfold yielded;rw[hj];simp only[Option.bind_some];rw[hs.val d _ hb]
theorem aB {j d:Nat} {want:Bool} {dst:Option Nat} (hj:(ops[j]?).bind (·.dst)=some d) (hb:lk L d=some (.bool want)) (h:WR P n B w0 ops ({dst:=dst,op:=op,type:=ty,pos:=pos,after:=ph,guard:=none}::l) K L R):
  WR P n B w0 ops ({dst:=dst,op:=op,type:=ty,pos:=pos,after:=ph,guard:=some (j,want)}::l) K L R:=by
 intro a w Q hs hp hq;have h1:=h a w Q hs hp hq;have hy:=rU hs hj hb;unfold wpList at h1 ⊢;rw[dm (by simp[Region.wanted])] at h1;rw[dm (by simp[Region.wanted,hy])];exact h1
theorem aM {j d e:Nat} {want b:Bool} (hj:(ops[j]?).bind (·.dst)=some d) (hb:lk L d=some (.bool b)) (cg:(b==want)=false) (hn:Nat.blt e n=true) (h:WR P n B w0 ops l K ((e,undef)::L) R):
  WR P n B w0 ops ({dst:=some e,op:=op,type:=ty,pos:=pos,after:=ph,guard:=some (j,want)}::l) K L R:=by
 intro a w Q hs hp hq;have hy:=rU hs hj hb;unfold wpList
 have:Region.wanted {dst:=some e,op:=op,type:=ty,pos:=pos,after:=ph,guard:=some (j,want)} (yielded ops a.tmps)=false:=by
  simp only[Region.wanted,hy];cases b<;>cases want<;>simp_all
 rw[this];simp only[xh,yj];exact h _ _ Q (hs.put hn undef) hp hq
theorem zZ {j d:Nat} {a:Act} (hs:Sat n L a) (hj:(ops[j]?).bind (·.dst)=some d) (hb:lk L d=some undef):yielded ops a.tmps j=none:=by
 unfold yielded;rw[hj];simp only[Option.bind_some];rw[hs.val d _ hb];rfl
theorem dP {j d e:Nat} {want:Bool} (hj:(ops[j]?).bind (·.dst)=some d) (hb:lk L d=some undef) (hn:Nat.blt e n=true) (h:WR P n B w0 ops l K ((e,undef)::L) R):
  WR P n B w0 ops ({dst:=some e,op:=op,type:=ty,pos:=pos,after:=ph,guard:=some (j,want)}::l) K L R:=by
 intro a w Q hs hp hq;have hy:=zZ hs hj hb;unfold wpList
 have:Region.wanted {dst:=some e,op:=op,type:=ty,pos:=pos,after:=ph,guard:=some (j,want)} (yielded ops a.tmps)=false:=by
  simp[Region.wanted,hy]
 rw[this];simp only[xh,yj];exact h _ _ Q (hs.put hn undef) hp hq
theorem rJ {d:Nat} {v:Value} (h:lk L d=some v):Sub ((d,v)::L) L:=by
 intro t u hu;rcases zQ hu with⟨rfl,rfl⟩|⟨_,hl⟩
 ·exact h
 ·exact hl
theorem bJ (d:Nat) {p:Prop} [Decidable p] (hb:lk L d=some (.bool (decide p))) (ht:p->WR P n B w0 ops l K ((d, .bool true)::L) R) (hf: ¬p->WR P n B w0 ops l K ((d, .bool false)::L) R):WR P n B w0 ops l K L R:=by
 intro a w Q hs hp hq;by_cases h:p
 ·exact ht h a w Q (hs.sub (rJ (by rw[hb,ky h]))) hp hq
 ·exact hf h a w Q (hs.sub (rJ (by rw[hb,nk h]))) hp hq
theorem iU {L1:Env} {R1:List Row} (hL:Sub L1 L) (hR: ∀w,Hp B w0 w R->Hp B w0 w R1) (h:WR P n B w0 ops l K L1 R1):WR P n B w0 ops l K L R:=
 λa w Q hs hp hq=>h a w Q (hs.sub hL) (hR w hp) hq
theorem bC {d:Nat} {u v:Value} (hu:u=v) (h:WR P n B w0 ops l K ((d,v)::L) R):WR P n B w0 ops l K ((d,u)::L) R:=by
 subst hu;exact h
theorem gJ {R1:List Row} (hR:R=R1) (h:WR P n B w0 ops l K L R1):WR P n B w0 ops l K L R:=by
 subst hR;exact h
end
end Go.Eng
namespace Go.Eng
open Go Go.RowKit
section
variable {P:Program} {n:Nd} {B:Nat} {w0:World} {L:Env} {R:List Row} {ty:TypeId}
theorem aJ {x:Operand} {v:Value} (h:ev L x=some v):Yl P n B w0 (.move x) ty L R v:=by
 intro a w o ho _ hs _;simp[execOp,ho,hs.ev h]
theorem aW {x:Operand} {v:Value} (h:ev L x=some v):Yl P n B w0 (.assign x) ty L R v:=by
 intro a w o ho _ hs _;simp[execOp,ho,hs.ev h]
theorem aSs {c x y:Operand} {b:Bool} {v u:Value} (hc:ev L c=some (.bool b)) (hx:b=true->ev L x=some v) (hy:b=false->ev L y=some u):Yl P n B w0 (.pick c x y) ty L R (bif b then v else u):=by
 intro a w o ho _ hs _;cases b with
 |true=>simp[execOp,ho,hs.ev hc,hs.ev (hx rfl),asBool]
 |false=>simp[execOp,ho,hs.ev hc,hs.ev (hy rfl),asBool]
theorem aS {c x y:Operand} {v:Value} (hc:ev L c=some (.bool true)) (hx:ev L x=some v):Yl P n B w0 (.pick c x y) ty L R v:=
 aSs (b:=true) (u:=undef) hc (λ_=>hx) (λh=>by cases h)
theorem aN {c x y:Operand} {v:Value} (hc:ev L c=some (.bool false)) (hy:ev L y=some v):Yl P n B w0 (.pick c x y) ty L R v:=
 aSs (b:=false) (v:=undef) hc (λh=>by cases h) (λ_=>hy)
theorem aL {x:Operand} {t e:TypeId} {A:AF} {m c:Nat} (ht:P.underlying t=some (.slice e)) (hx:ev L x=some (.slice A m c)):Yl P n B w0 (.call {callee:= .builtin .len,args:= #[x],argTypes:= #[t]}) ty L R (.int .i64 (m:Int)):=by
 intro a w o ho _ hs _;simp[execOp,ho,resolve,invoke,builtin,Builtin.len_,ou ht,hs.ev hx,goInt]
theorem rV {x y:Operand} {ts:Array TypeId} {k:IntKind} {p q:Int} (hx:ev L x=some (.int k p)) (hy:ev L y=some (.int k q)):Yl P n B w0 (.call {callee:= .builtin .min,args:= #[x,y],argTypes:=ts}) ty L R (.int k (min p q)):=by
 intro a w o ho _ hs _;have:(if q<p then q else p)=min p q:=G
 simp[execOp,ho,resolve,invoke,builtin,Builtin.min_,Builtin.min2,hs.ev hx,hs.ev hy,this]
theorem MM {x y:Operand} {ts:Array TypeId} {k:IntKind} {p q:Int} (hx:ev L x=some (.int k p)) (hy:ev L y=some (.int k q)):Yl P n B w0 (.call {callee:= .builtin .max,args:= #[x,y],argTypes:=ts}) ty L R (.int k (max p q)):=by
 intro a w o ho _ hs _;have:(if p<q then q else p)=max p q:=G
 simp[execOp,ho,resolve,invoke,builtin,Builtin.max_,Builtin.max2,hs.ev hx,hs.ev hy,this]
theorem eT {x y:Operand} {t u:TypeId} {k:IntKind} {p q:Int} (hx:ev L x=some (.int k p)) (hy:ev L y=some (.int k q)):Yl P n B w0 (.binOp .eql t x y u) ty L R (.bool (decide (p=q))):=by
 intro a w o ho _ hs _;have:(p==q)=decide (p=q):=by by_cases h:p=q<;>simp[h]
 simp[execOp,ho,binOp,eqGuard,hs.ev hx,hs.ev hy,Op.intCmp,this]
theorem fQ {x y:Operand} {t u:TypeId} {k:IntKind} {p q:Int} (hx:ev L x=some (.int k p)) (hy:ev L y=some (.int k q)):Yl P n B w0 (.binOp .neq t x y u) ty L R (.bool (decide (p≠q))):=by
 intro a w o ho _ hs _;have:(p !=q)=decide (p≠q):=by by_cases h:p=q<;>simp[h]
 simp[execOp,ho,binOp,eqGuard,hs.ev hx,hs.ev hy,Op.intCmp,this]
theorem eQ {x y:Operand} {t u:TypeId} {k:IntKind} {p q:Int} (hx:ev L x=some (.int k p)) (hy:ev L y=some (.int k q)):Yl P n B w0 (.binOp .lss t x y u) ty L R (.bool (decide (p<q))):=by
 intro a w o ho _ hs _;simp[execOp,ho,binOp,eqGuard,hs.ev hx,hs.ev hy,Op.intCmp]
theorem qM {x y:Operand} {t u:TypeId} {k:IntKind} {p q:Int} (hx:ev L x=some (.int k p)) (hy:ev L y=some (.int k q)):Yl P n B w0 (.binOp .leq t x y u) ty L R (.bool (decide (p<=q))):=by
 intro a w o ho _ hs _;simp[execOp,ho,binOp,eqGuard,hs.ev hx,hs.ev hy,Op.intCmp]
theorem bW {x y:Operand} {t u:TypeId} {k:IntKind} {p q:Int} (hx:ev L x=some (.int k p)) (hy:ev L y=some (.int k q)):Yl P n B w0 (.binOp .gtr t x y u) ty L R (.bool (decide (q<p))):=by
 intro a w o ho _ hs _;simp[execOp,ho,binOp,eqGuard,hs.ev hx,hs.ev hy,Op.intCmp]
theorem iL {x y:Operand} {t u:TypeId} {k:IntKind} {p q:Int} (hx:ev L x=some (.int k p)) (hy:ev L y=some (.int k q)):Yl P n B w0 (.binOp .geq t x y u) ty L R (.bool (decide (q<=p))):=by
 intro a w o ho _ hs _;simp[execOp,ho,binOp,eqGuard,hs.ev hx,hs.ev hy,Op.intCmp]
theorem aSz {x y:Operand} {t u:TypeId} {k:IntKind} {p q:Int} (hx:ev L x=some (.int k p)) (hy:ev L y=some (.int k q)):Yl P n B w0 (.binOp .add t x y u) ty L R (.int k (k.wrap (p+q))):=by
 intro a w o ho _ hs _;simp[execOp,ho,binOp,eqGuard,hs.ev hx,hs.ev hy,Op.intArith]
theorem bGy {x y:Operand} {t u:TypeId} {k:IntKind} {p q:Int} (hx:ev L x=some (.int k p)) (hy:ev L y=some (.int k q)):Yl P n B w0 (.binOp .sub t x y u) ty L R (.int k (k.wrap (p-q))):=by
 intro a w o ho _ hs _;simp[execOp,ho,binOp,eqGuard,hs.ev hx,hs.ev hy,Op.intArith]
theorem bHa {x y:Operand} {t u:TypeId} {k:IntKind} {p q:Int} (hx:ev L x=some (.int k p)) (hy:ev L y=some (.int k q)):Yl P n B w0 (.binOp .mul t x y u) ty L R (.int k (k.wrap (p*q))):=by
 intro a w o ho _ hs _;simp[execOp,ho,binOp,eqGuard,hs.ev hx,hs.ev hy,Op.intArith]
theorem CP {p:Int} (h: -9223372036854775808<=p/\p<=9223372036854775807):IntKind.i64.wrap p=p:=by rw[Ca];omega
theorem bT {x y:Operand} {t u:TypeId} {p q:Int} (hx:ev L x=some (.int .i64 p)) (hy:ev L y=some (.int .i64 q)) (h: -9223372036854775808<=p+q/\p+q<=9223372036854775807:=by omega):Yl P n B w0 (.binOp .add t x y u) ty L R (.int .i64 (p+q)):=by
 have:=aSz (P:=P) (n:=n) (B:=B) (w0:=w0) (R:=R) (ty:=ty) (t:=t) (u:=u) hx hy;rwa[CP h] at this
theorem kY {x y:Operand} {t u:TypeId} {p q:Int} (hx:ev L x=some (.int .i64 p)) (hy:ev L y=some (.int .i64 q)) (h: -9223372036854775808<=p-q/\p-q<=9223372036854775807:=by omega):Yl P n B w0 (.binOp .sub t x y u) ty L R (.int .i64 (p-q)):=by
 have:=bGy (P:=P) (n:=n) (B:=B) (w0:=w0) (R:=R) (ty:=ty) (t:=t) (u:=u) hx hy;rwa[CP h] at this
theorem jT {x y:Operand} {t u:TypeId} {p q:Int} (hx:ev L x=some (.int .i64 p)) (hy:ev L y=some (.int .i64 q)) (h: -9223372036854775808<=p*q/\p*q<=9223372036854775807:=by omega):Yl P n B w0 (.binOp .mul t x y u) ty L R (.int .i64 (p*q)):=by
 have:=bHa (P:=P) (n:=n) (B:=B) (w0:=w0) (R:=R) (ty:=ty) (t:=t) (u:=u) hx hy;rwa[CP h] at this
theorem tC {x y:Operand} {t u:TypeId} {k:IntKind} {p q:Int} (hx:ev L x=some (.int k p)) (hy:ev L y=some (.int k q)) (h0:0<=p:=by omega) (h:0<q:=by omega):Yl P n B w0 (.binOp .rem t x y u) ty L R (.int k (p%q)):=by
 intro a w o ho _ hs _;have h1: ¬q=0:=G
 simp[execOp,ho,binOp,eqGuard,hs.ev hx,hs.ev hy,Op.intDiv,h1,Int.tmod_eq_emod_of_nonneg h0]
theorem bGz {x y:Operand} {t u:TypeId} {k:IntKind} {p q:Int} (hx:ev L x=some (.int k p)) (hy:ev L y=some (.int k q)) (h0:0<=p) (h:0<q):Yl P n B w0 (.binOp .quo t x y u) ty L R (.int k (k.wrap (p/q))):=by
 intro a w o ho _ hs _;have h1: ¬q=0:=G
 simp[execOp,ho,binOp,eqGuard,hs.ev hx,hs.ev hy,Op.intDiv,h1,Int.tdiv_eq_ediv_of_nonneg h0]
theorem wW {x y:Operand} {t u:TypeId} {p q:Int} (hx:ev L x=some (.int .i64 p)) (hy:ev L y=some (.int .i64 q)) (h0:0<=p) (h:0<q) (hm:p<=9223372036854775807):Yl P n B w0 (.binOp .quo t x y u) ty L R (.int .i64 (p/q)):=by
 have:=bGz (P:=P) (n:=n) (B:=B) (w0:=w0) (R:=R) (ty:=ty) (t:=t) (u:=u) hx hy h0 h;have h1:p/q<=p:=Ez q h0;have h2:0<=p/q:=Gj h0 G;rwa[CP G] at this
theorem dC {x:Operand} {t:TypeId} {b:Bool} (hx:ev L x=some (.bool b)):Yl P n B w0 (.unOp .not t x) ty L R (.bool !b):=by
 intro a w o ho _ hs _;simp[execOp,ho,hs.ev hx,Op.unary]
theorem uC {x:Operand} {t:TypeId} {p:Prop} [Decidable p] (hx:ev L x=some (.bool (decide p))):Yl P n B w0 (.unOp .not t x) ty L R (.bool (decide (¬p))):=by
 have:=dC (P:=P) (n:=n) (B:=B) (w0:=w0) (R:=R) (ty:=ty) (t:=t) hx;rwa[show(!decide p)=decide (¬p) by simp] at this
theorem nR {x:Operand} {s d:TypeId} {k j:IntKind} {p:Int} {td:TypeDesc} (en:P.underlying s=some td) (hd:P.underlying d=some (.int k)) (hx:ev L x=some (.int j p)):Yl P n B w0 (.convert s d x) ty L R (.int k (k.wrap p)):=by
 intro a w o ho _ hs _;simp[execOp,ho,convert,ou en,ou hd,hs.ev hx,Conv.intToInt]
theorem jG {x:Operand} {s d:TypeId} {j:IntKind} {p:Int} {td:TypeDesc} (en:P.underlying s=some td) (hd:P.underlying d=some (.int .i64)) (hx:ev L x=some (.int j p)) (h: -9223372036854775808<=p/\p<=9223372036854775807:=by omega):Yl P n B w0 (.convert s d x) ty L R (.int .i64 p):=by
 have:=nR (P:=P) (n:=n) (B:=B) (w0:=w0) (R:=R) (ty:=ty) en hd hx;rwa[CP h] at this
end
end Go.Eng
namespace Go.Eng
open Go Go.RowKit
def pat (A:AF) (j:Nat):AF:=A.map (·.add j)
theorem add_add (a:Addr) (i j:Nat):(a.add i).add j=a.add (i+j):=by
 unfold Addr.add;by_cases h1:i=0<;>by_cases h2:j=0<;>simp[h1,h2,nz]
theorem EH (A:AF):pat A 0=A:=by cases A<;>simp[pat,Addr.add]
def rd (l:AH) (i:Int):Int:=l.getD i.toNat 0
def ints (k:IntKind) (l:AH):AG:=l.map (Value.int k)
theorem bY (k:IntKind) (l:AH):(ints k l).length=l.length:=by simp[ints]
theorem ints_at {k:IntKind} {l:AH} {i:Int} (h0:0<=i) (h:i<l.length):(ints k l)[i.toNat]? =some (.int k (rd l i)):=by
 have hl:i.toNat<l.length:=G
 simp[ints,rd,ai,av hl]
def JK:TypeDesc->Bool
 | .struct _=>true
 | .array _ _=>true
 |_=>false
section
variable {P:Program} {n:Nd} {B:Nat} {w0:World} {L:Env} {R:List Row} {ty:TypeId}
theorem TY {t:TypeId} {d:TypeDesc} (hu:P.underlying t=some d) (w:World):(isAgg t).run P w= .ok (JK d) w:=by
 simp only[isAgg,jw,ou hu,kg];cases d<;>rfl
theorem Rd.cell {w:World} {A:AF} {m c sz:Nat} {xs:AG} (h:Rd w A m c sz xs) {j:Nat} {v:Value} (hv:xs[j]? =some v): ∃a,pat A j=some a/\w.cell? a=some v:=by
 obtain⟨a,rfl,hc⟩:=h.at_ j v hv;exact⟨_,rfl,hc⟩
theorem nQ {x ix:Operand} {t e:TypeId} {k:IntKind} {A:AF} {m c sz:Nat} {i:Int} {xs:AG} (ht:P.underlying t=some (.slice e)) (hi:(P.info? e).map (·.size)=some sz) (hx:ev L x=some (.slice A m c)) (ti:ev L ix=some (.int k i))
  (hr:RdC B w0 R A m c sz xs) (hsz:Nat.blt 0 sz=true) (h0:0<=i:=by omega) (h1:i<m:=by omega):Yl P n B w0 (.indexAddr t x ix) ty L R (.pointer (pat A (i.toNat*sz))):=by
 intro a w o ho _ hs hp;have gg:=hr w hp;obtain⟨i0,aw,hsz0⟩:=je.1 hi
 have br:i.toNat*sz<xs.length:=by
  rw[gg.len];exact Nat.mul_lt_mul_of_pos_right G (ak hsz)
 obtain⟨ad,rfl,_⟩:=gg.at_ (i.toNat*sz) xs[i.toNat*sz] (by simp[br]);simp[execOp,ho,Instr.indexAt,hs.ev hx,hs.ev ti,asIntOf,ou ht,h0,h1,sizeOf,typeInfo,aw,hsz0,pat]
theorem aF {x ix:Operand} {t e:TypeId} {k:IntKind} {A:AF} {m c:Nat} {i:Int} {xs:AG} (ht:P.underlying t=some (.slice e)) (hi:(P.info? e).map (·.size)=some 1) (hx:ev L x=some (.slice A m c)) (ti:ev L ix=some (.int k i))
  (hr:RdC B w0 R A m c 1 xs) (h0:0<=i:=by omega) (h1:i<m:=by omega):Yl P n B w0 (.indexAddr t x ix) ty L R (.pointer (pat A i.toNat)):=by
 have:=nQ (n:=n) (ty:=ty) ht hi hx ti hr rfl h0 h1;rwa[qp] at this
theorem BB {x ix:Operand} {t e:TypeId} {k:IntKind} {p A:AF} {m c sz sz' N j0:Nat} {i:Int} {xs:AG} (ht:P.underlying t=some (.array N e)) (hi:(P.info? e).map (·.size)=some sz) (hx:ev L x=some (.pointer p)) (Pd:p=pat A j0) (ti:ev L ix=some (.int k i))
  (hr:RdC B w0 R A m c sz' xs) (br:j0<xs.length) (h0:0<=i) (h1:i<N):Yl P n B w0 (.indexAddr t x ix) ty L R (.pointer (pat A (j0+i.toNat*sz))):=by
 intro a w o ho _ hs hp;have gg:=hr w hp;obtain⟨i0,aw,hsz0⟩:=je.1 hi;obtain⟨ad,rfl,_⟩:=gg.at_ j0 xs[j0] (by simp[br]);subst Pd;simp[execOp,ho,Instr.indexAt,Instr.sureAddr,hs.ev hx,hs.ev ti,asIntOf,ou ht,h0,h1,sizeOf,typeInfo,aw,hsz0,pat,add_add]
theorem kH {x:Operand} {t:TypeId} {d:TypeDesc} {p A:AF} {j m c sz:Nat} {xs:AG} {v:Value} (hu:P.underlying t=some d) (hd:JK d=false) (hx:ev L x=some (.pointer p)) (hp:p=pat A j) (hr:RdC B w0 R A m c sz xs) (hv:xs[j]? =some v):
  Yl P n B w0 (.load t x) ty L R v:=by
 intro a w o ho _ hs hw;obtain⟨ad,h1,h2⟩:=(hr w hw).cell hv;subst hp;simp[execOp,ho,Instr.loadAt,Instr.sureAddr,hs.ev hx,h1,loadVar,TY hu,hd,h2]
theorem aT {x:Operand} {t:TypeId} {d:TypeDesc} {A:AF} {m c:Nat} {k:IntKind} {l:AH} {i:Int} (hu:P.underlying t=some d) (hd:JK d=false) (hx:ev L x=some (.pointer (pat A i.toNat))) (hr:RdC B w0 R A m c 1 (ints k l)) (h0:0<=i:=by omega) (h1:i<m:=by omega):
  Yl P n B w0 (.load t x) ty L R (.int k (rd l i)):=by
 intro a w o ho Mw hs hw;have hl:=(hr w hw).len;rw[bY] at hl;exact kH hu hd hx rfl hr (ints_at h0 G) a w o ho Mw hs hw
theorem aSv {x:Operand} {t:TypeId} {d:TypeDesc} {p A:AF} {j m c sz st:Nat} {xs:AG} (hu:P.underlying t=some d) (hd:JK d=true) (gd:(P.info? t).map (·.size)=some st) (hx:ev L x=some (.pointer p)) (hp:p=pat A j) (hr:RdC B w0 R A m c sz xs) (hj:j+st<=xs.length) (Mp:0<st):
  Yl P n B w0 (.load t x) ty L R (.agg ((xs.drop j).take st).toArray):=by
 intro a w o ho _ hs hw;have gg:=hr w hw;obtain⟨i0,aw,hsz0⟩:=je.1 gd;obtain⟨ad,rfl,_⟩:=gg.at_ j xs[j] cD;subst hp
 have hc:(loadCells (ad.add j) st).run P w= .ok ((xs.drop j).take st).toArray w:=by
  have:=run_loadCells_list (P:=P) w (ad.add j) ((xs.drop j).take st) (λq v hq=>by
   have Tq:xs[j+q]? =some v:=by
    rw[qb] at hq;split at hq
    ·simpa using hq
    ·cases hq
   obtain⟨a',oe,hc⟩:=gg.at_ _ _ Tq;obtain rfl:=jg oe
   rw[add_add];exact hc)
  have hl:((xs.drop j).take st).length=st:=cH
  rwa[hl] at this
 simp[execOp,ho,Instr.loadAt,Instr.sureAddr,hs.ev hx,pat,loadVar,TY hu,hd,sizeOf,typeInfo,aw,hsz0,hc]
theorem ZB {x:Operand} {t:TypeId} {fs:Array Field} {f:Field} {k st:Nat} {a0:Addr} (hu:P.underlying t=some (.struct fs)) (hf:fs[k]? =some f) (gd:(P.info? f.type).map (·.size)=some st) (Mp:Nat.blt 0 st=true) (hx:ev L x=some (.pointer (some a0))):
  Yl P n B w0 (.fieldAddr t x k) ty L R (.pointer (some (a0.add f.offset))):=by
 intro a w o ho _ hs _;obtain⟨i0,aw,hsz0⟩:=je.1 gd;have: ¬st=0:=by have:=ak Mp;omega
 simp[execOp,ho,Instr.fieldAt,Instr.sureAddr,hs.ev hx,ou hu,hf,fieldPlace,sizeOf,typeInfo,aw,hsz0,this]
theorem aH {x:Operand} {a0:Addr} (hx:ev L x=some (.pointer (some a0))):Yl P n B w0 (.nilCheck x) ty L R (.pointer (some a0)):=by
 intro a w o ho _ hs _;simp[execOp,ho,hs.ev hx]
theorem GR {x:Operand} {i:Nat} {vs:Array Value} {v:Value} (hx:ev L x=some (.tuple vs)) (hv:vs[i]? =some v):Yl P n B w0 (.extract x i) ty L R v:=by
 intro a w o ho _ hs _;simp[execOp,ho,hs.ev hx,Instr.extract,hv]
def evs (L:Env):List Operand->Option (AG)
 |[]=>some []
 |x::r=>match ev L x,evs L r with
  |some v,some vs=>some (v::vs)
  |_,_=>none
theorem Sat.evs {a:Act} (hs:Sat n L a): ∀ {xs:List Operand} {vs:AG},evs L xs=some vs->xs.map a.eval=vs
 |[],vs,h=>by simpa [Eng.evs] using h
 | x::r,vs,h=>by
  unfold Eng.evs at h;split at h
  ·rename_i v us h1 h2;obtain rfl:=jg h;rw[jm,hs.ev h1,hs.evs h2]
  ·cases h
theorem mX {fn:Fn} {ps cs:List Operand} {vs us:AG} (h1:evs L ps=some vs) (h2:evs L cs=some us):Yl P n B w0 (.makeFunc fn ps.toArray cs.toArray) ty L R (.func fn vs.toArray us.toArray):=by
 intro a w o ho _ hs _;have e1:=hs.evs h1;have e2:=hs.evs h2;simp[execOp,ho,Instr.makeFunc,e1,e2]
def jO (A:AF) (l c sz:Nat):AF:=if c=l then A else A.map (·.add (l*sz))
theorem bJq {w:World} {A:AF} {m sz c l h:Nat} {xs:AG} (hr:Rd w A m c sz xs) (h1:l<=h) (h2:h<=m):Rd w (jO A l c sz) (h-l) (c-l) sz ((xs.drop (l*sz)).take ((h-l)*sz)):=by
 have hc:=hr.le;have e1:h*sz=l*sz+(h-l)*sz:=by rw[<-yl];congr 1;omega
 have e2:h*sz<=m*sz:=vg _ h2;refine⟨?_,by have:=hr.max;omega,G,λj v hv=> ?_⟩
 ·rw[ax,bn,hr.len];omega
 ·rw [qb] at hv;split at hv
  ·rename_i hj;have Tv:xs[l*sz+j]? =some v:=by simpa using hv
   obtain⟨a,rfl,ya⟩:=hr.at_ _ _ Tv;unfold jO;by_cases kf:c=l
   ·have:h=l:=G
    subst this;simp at hj
   ·rw [df kf];exact⟨_,rfl,by rw[add_add];exact ya⟩
  ·cases hv
theorem RdC.cut {A:AF} {m sz c l h:Nat} {xs:AG} (hr:RdC B w0 R A m c sz xs) (h1:l<=h) (h2:h<=m):RdC B w0 R (jO A l c sz) (h-l) (c-l) sz ((xs.drop (l*sz)).take ((h-l)*sz)):=
 λw hw=>bJq (hr w hw) h1 h2
theorem RdC.cutI {A:AF} {m c l h:Nat} {k:IntKind} {xs:AH} (hr:RdC B w0 R A m c 1 (ints k xs)) (h1:l<=h) (h2:h<=m):RdC B w0 R (jO A l c 1) (h-l) (c-l) 1 (ints k ((xs.drop l).take (h-l))):=by
 have:=hr.cut h1 h2;simpa [ints,Cu,Jf] using this
theorem RdC.fromI {A:AF} {m c l:Nat} {k:IntKind} {xs:AH} (hr:RdC B w0 R A m c 1 (ints k xs)) (h1:l<=m):RdC B w0 R (jO A l c 1) (m-l) (c-l) 1 (ints k (xs.drop l)):=by
 intro w hw;have:=hr.cutI h1 (ed m) w hw;have hl:=(hr w hw).len;rw[bY] at hl;rwa[bg (by rw[bn];omega)] at this
theorem RdC.to {A:AF} {m c h sz:Nat} {xs:AG} (hr:RdC B w0 R A m c sz xs) (h2:h<=m):RdC B w0 R A h c sz (xs.take (h*sz)):=by
 intro w hw;have gg:=hr w hw;have hl:=gg.len;have nw:h*sz<=m*sz:=vg _ h2;refine⟨by rw[ax];omega,by have:=gg.max;omega,by have:=gg.le;omega,λj v hv=> ?_⟩;refine gg.at_ j v ?_;rw[qb] at hv;split at hv
 ·exact hv
 ·cases hv
theorem RdC.toI {A:AF} {m h c:Nat} {k:IntKind} {xs:AH} (hr:RdC B w0 R A m c 1 (ints k xs)) (h2:h<=m):RdC B w0 R A h c 1 (ints k (xs.take h)):=by
 have:=hr.to h2;simpa [ints,Cu] using this
theorem aJm {x y z:Operand} {t e:TypeId} {A:AF} {m c sz:Nat} {k1 k2:IntKind} {l h:Int} (ht:P.underlying t=some (.slice e)) (hi:(P.info? e).map (·.size)=some sz) (hx:ev L x=some (.slice A m c)) (hy:ev L y=some (.int k1 l)) (hz:ev L z=some (.int k2 h)) {xs:AG} (hr:RdC B w0 R A m c sz xs) (h0:0<=l) (h1:l<=h) (h2:h<=m):
  Yl P n B w0 (.slice t x (some y) (some z) none) ty L R (.slice (jO A l.toNat c sz) (h.toNat-l.toNat) (c-l.toNat)):=by
 intro a w o ho _ hs hp;have nw:=(hr w hp).le;obtain⟨i0,aw,hsz0⟩:=je.1 hi;have wj:P.elem t=e:=by simp[Program.elem,ht]
 have sr:P.underlying t=some (.slice (P.elem t)):=by rw[wj];exact ht
 simp only[execOp,ho,kv,Bj,hs.ev hx,hs.ev hy,hs.ev hz,jw,Ak w t _ _ _ _ sr,run_slice_lh w t A m c sr k1 k2 l h h0 h1 G,wj];simp[sizeOf,typeInfo,aw,hsz0,sliced,jO]
theorem dH {x y:Operand} {t e:TypeId} {A:AF} {m c sz:Nat} {k1:IntKind} {l:Int} (ht:P.underlying t=some (.slice e)) (hi:(P.info? e).map (·.size)=some sz) (hx:ev L x=some (.slice A m c)) (hy:ev L y=some (.int k1 l)) (h0:0<=l:=by omega) (h1:l<=m:=by omega):
  Yl P n B w0 (.slice t x (some y) none none) ty L R (.slice (jO A l.toNat c sz) (m-l.toNat) (c-l.toNat)):=by
 intro a w o ho _ hs _;obtain⟨i0,aw,hsz0⟩:=je.1 hi;have wj:P.elem t=e:=by simp[Program.elem,ht]
 have sr:P.underlying t=some (.slice (P.elem t)):=by rw[wj];exact ht
 simp only[execOp,ho,kv,Bj,hs.ev hx,hs.ev hy,jw,Ak w t _ _ _ _ sr,run_slice_l w t A m c sr k1 l h0 h1,wj];simp[sizeOf,typeInfo,aw,hsz0,sliced,jO]
theorem eD {x z:Operand} {t e:TypeId} {A:AF} {m c sz:Nat} {k2:IntKind} {h:Int} (ht:P.underlying t=some (.slice e)) (hi:(P.info? e).map (·.size)=some sz) (hx:ev L x=some (.slice A m c)) (hz:ev L z=some (.int k2 h)) {xs:AG} (hr:RdC B w0 R A m c sz xs) (h0:0<=h:=by omega) (h2:h<=m:=by omega):
  Yl P n B w0 (.slice t x none (some z) none) ty L R (.slice A h.toNat c):=by
 intro a w o ho _ hs hp;have nw:=(hr w hp).le;obtain⟨i0,aw,hsz0⟩:=je.1 hi;have wj:P.elem t=e:=by simp[Program.elem,ht]
 have sr:P.underlying t=some (.slice (P.elem t)):=by rw[wj];exact ht
 simp only[execOp,ho,kv,Bj,hs.ev hx,hs.ev hz,jw,Ak w t _ _ _ _ sr,run_slice_h w t A m c sr k2 h h0 G,wj]
 have:(if c=0 then A else Option.map (λx=>x.add 0) A)=A:=by
  split
  ·rfl
  ·exact EH A
 simp[sizeOf,typeInfo,aw,hsz0,sliced,this]
def Enters (P:Program) (f:FuncId):Prop:= ∀args w,(callFunc f args).run P w= .ok (.enter f args) w
theorem enters {f:FuncId} {fn:Func} (hf:P.funcs[f]? =some fn) (h1:(fn.name== "runtime.NumGoroutine")=false) (h2:fn.body.isNone=false):Enters P f:=by
 intro args w;unfold callFunc;simp only[program,jw,Sem.run,kg,hf];simp[h1,h2]
theorem BZ {cal:Operand} {Lc:List Operand} {ts:Array TypeId} {f:FuncId} {ps cs:Array Value} {vs:AG} {Post:Value->List Row->Prop} (he:Enters P f) (hf:ev L cal=some (.func (.func f) ps cs)) (ha:evs L Lc=some vs) (hc:Ct P f (ps++vs.toArray++cs) B w0 R Post):
  Ac P n B w0 (.call {callee:= .value cal,args:=Lc.toArray,argTypes:=ts}) ty L R Post:=by
 intro a w o K Q ho _ hs hp hk;have e1:=hs.evs ha;unfold Oper.wp;simp only[execOp,ho,resolve,hs.ev hf,Deferred.ofValue,invoke,jw,pu,kg,um,e1,he (ps++vs.toArray++cs) w,Oper.upon];refine(hc w hp).mono ?_;rintro e w' ⟨v,R',rfl,cr,hv⟩;exact hk v w' R' cr hv
theorem aC {f:FuncId} {Lc:List Operand} {ts:Array TypeId} {vs:AG} {Post:Value->List Row->Prop} (he:Enters P f) (ha:evs L Lc=some vs) (hc:Ct P f vs.toArray B w0 R Post):
  Ac P n B w0 (.call {callee:= .value (.func f),args:=Lc.toArray,argTypes:=ts}) ty L R Post:=
 BZ (ps:= #[]) (cs:= #[]) he rfl ha (by simpa using hc)
end
end Go.Eng
namespace Go.Eng
open Go Go.RowKit
section
variable {P:Program} {n:Nd} {B:Nat} {w0:World} {L:Env} {R:List Row} {ty:TypeId}
theorem Row.lies_nil (B:Nat) (w:World) (e sz:Nat):(Row.mk e sz none 0 0 [] false).lies B w:=World.ownsRow_nil w B e sz
theorem Hp.nil {w:World} (h:Hp B w0 w R) (e sz:Nat):Hp B w0 w (⟨e,sz,none,0,0,[],false⟩::R):=
 ⟨h.below,h.base,λr hr=>by
  rcases jd.1 hr with rfl|hr
  ·exact Row.lies_nil B w e sz
  ·exact h.own r hr,ja.2 ⟨λr _ a a' ha _=>(by cases ha),h.apart⟩,h.late⟩
theorem Hp.new {w:World} (h:Hp B w0 w R) (cs:Array Value) (e m sz:Nat) (hm:m<=maxLen) (hs:cs.size=m*sz):Hp B w0 (w.alloc (.cells cs e)) (⟨e,sz,some ⟨w.heap.size,0,none⟩,m,m,cs.toList,false⟩::R):=by
 refine h.join (Rn:=[_]) ⟨(Ey _ _).alloc (ed _) _,cD,λr hr=> ?_,qi _ _,Late.alloc _ _⟩;obtain rfl:=ig.1 hr;exact World.ownsRow_lit w cs m (ed _) hm hs
theorem Hp.upd {w w':World} (h:Hp B w0 w R) {i:Nat} {r r':Row} (hi:R[i]? =some r) {row:Option Nat} (hg:w.grownBy w' row) (hd:w.drawn<=w'.drawn) (gn: ∀k,row=some k-> ∃a,r.A=some a/\a.block=k) (hl:r'.lies B w')
  (hb: ∀a',r'.A=some a'->(∃a,r.A=some a/\a.block=a'.block)\/w.heap.size<=a'.block):Hp B w0 w' (R.set i r'):=by
 have hr:r∈R:=gq hi;have i5:i<R.length:=(fw.1 hi).1
 have keep: ∀(q:Row),q.lies B w->(∀a,q.A=some a-> ∀a',r.A=some a'->a.block≠a'.block)->q.lies B w':=by
  intro q hq cg;refine Row.lies_of_block hq λa ha=> ?_;refine hg.block a.block (Row.lies_lt hq a ha).2 λe=> ?_;obtain⟨a',oe,hk⟩:=gn _ e.symm;exact cg a ha a' oe hk.symm
 refine⟨h.below.grown hg h.base (λk hk=> ?_),qm h.base hg.size,λq hq=> ?_,?_,h.late.trans ⟨hd,λk o hk hc=> ?_⟩⟩
 ·obtain ⟨a,ha,rfl⟩:=gn k hk;exact(Row.lies_lt (h.own r hr) a ha).1
 ·obtain ⟨j,hj⟩:=List.mem_iff_getElem?.1 hq;rw[xz] at hj;by_cases mz:i=j
  ·rw [dm mz] at hj;rw[dm i5] at hj;obtain rfl:=jg hj;exact hl
  ·rw [df mz] at hj;refine keep q (h.own q (gq hj)) ?_;intro a ha a' oe;have Fm:=(fw.1 hj).1;have Wd:=(fw.1 hj).2;have o6:=(fw.1 hi).2;rcases Dk mz with br|br
   ·have:=dz.1 h.apart i j i5 Fm br;rw[Wd,o6] at this;exact Ir (this a' a oe ha)
   ·have:=dz.1 h.apart j i Fm i5 br;rw[Wd,o6] at this;exact this a a' ha oe
 ·have qk: ∀j (hj:j<R.length),i≠j->r'.apart R[j]:=by
   intro j hj mz a' aj oe Za;have hlj:=Row.lies_lt (h.own R[j] (lu hj)) aj Za;rcases hb a' oe with⟨a,ha,e⟩|Ly
   ·have o6:=(fw.1 hi).2;rw[<-e];rcases Dk mz with br|br
    ·have:=dz.1 h.apart i j i5 hj br;rw[o6] at this;exact this a aj ha Za
    ·have:=dz.1 h.apart j i hj i5 br;rw[o6] at this;exact Ir (this aj a Za ha)
   ·omega
  refine dz.2 λp q hp hq hpq=> ?_;simp only[Gp] at hp hq;by_cases h1:i=p
  ·subst h1;rw[List.getElem_set_self,Cq G];exact qk q hq G
  ·by_cases h2:i=q
   ·subst h2;rw[List.getElem_set_self,Cq h1];exact Row.apart_symm (qk p hp G)
   ·rw [Cq h1,Cq h2];exact dz.1 h.apart p q hp hq hpq
 ·rw [hg.block k (gu.1 hk).1 λe=> ?_]
  ·exact hk
  ·obtain ⟨a,ha,rfl⟩:=gn k e.symm;obtain⟨cs,e',fr,bx⟩:=Row.lies_cells (h.own r hr) ha;rw[bx] at hk;cases hk;cases hc
theorem World.grownBy_refl' (w:World) (row:Option Nat):w.grownBy w row:=⟨rfl,rfl,rfl,ed _,λ_ _ _=>rfl⟩
theorem Row.lies_w {w:World} {r:Row} (h:r.lies B w) (ns:r.ro=false):w.ownsRow B r.e r.sz (.slice r.A r.n r.c) r.n r.xs:=by
 unfold Row.lies at h;simpa only[ns] using h
theorem bLq {x y:Operand} {t e:TypeId} {z:Value} {bytes m:Nat} (ht:P.underlying t=some (.slice e)) (ee:(P.info? e).map (λi=>(i.zero,i.size,i.bytes))=some (some z,1,bytes)) (hz:z.cells= #[z])
  (hx:ev L x=some (.int .i64 (m:Int))) (hy:ev L y=some (.int .i64 (m:Int))) (hm:m*bytes<=281474976710656) (No:m<=9223372036854775807):
  Ac P n B w0 (.makeSlice t x y) ty L R (λv R'=> ∃g,v= .slice (some ⟨g,0,none⟩) m m/\R'=⟨e,1,some ⟨g,0,none⟩,m,m,List.replicate m z,false⟩::R):=by
 intro a w o K Q ho _ hs hp hk;obtain⟨i0,hi,j6⟩:=je.1 ee;simp only[Ao] at j6;obtain⟨zc,c5,Hb⟩:=j6
 have hb:(i0.bytes:Int)*(m:Int)<=281474976710656:=by
  have h:((m*bytes:Nat):Int)<=281474976710656:=G
  rw[Hb,Ea];rwa[Bi] at h
 have hr:=run_make (P:=P) w t e i0 z ht hi zc .i64 .i64 m m G (ni _) hb G;simp only[dh,c5,qp,hz] at hr;unfold Oper.wp;simp only[execOp,ho,hs.ev hx,hs.ev hy,jw,hr,kg,pu,Oper.upon];have hh:=hp.new (madeCells #[z] m) e m 1 (by unfold maxLen;omega) (by simp[size_madeCells]);rw[toList_madeCells_one] at hh;exact hk _ _ _ hh ⟨_,rfl,rfl⟩
theorem aMq {x y:Operand} {t e:TypeId} {z:Value} {bytes:Nat} {m:Int} (ht:P.underlying t=some (.slice e)) (ee:(P.info? e).map (λi=>(i.zero,i.size,i.bytes))=some (some z,1,bytes)) (hz:z.cells= #[z])
  (hx:ev L x=some (.int .i64 m)) (hy:ev L y=some (.int .i64 m)) (h0:0<=m) (hm:m*bytes<=281474976710656) (No:m<=9223372036854775807):
  Ac P n B w0 (.makeSlice t x y) ty L R (λv R'=> ∃g,v= .slice (some ⟨g,0,none⟩) m.toNat m.toNat/\R'=⟨e,1,some ⟨g,0,none⟩,m.toNat,m.toNat,List.replicate m.toNat z,false⟩::R):=by
 obtain⟨q,rfl⟩:=Int.eq_ofNat_of_zero_le h0;have h:((q*bytes:Nat):Int)<=281474976710656:=by rw[Bi];exact hm
 have:=bLq (P:=P) (n:=n) (B:=B) (w0:=w0) (L:=L) (R:=R) (ty:=ty) (m:=q) ht ee hz hx hy G G;simpa only[dh] using this
theorem fJ {e:TypeId} {z:Value} {sz:Nat} (ee:(P.info? e).map (·.zero)=some (some z)) (hz:z.cells.size=sz):Ac P n B w0 (.alloc e) ty L R (λv R'=> ∃g,v= .pointer (some ⟨g,0,none⟩)/\R'=⟨e,sz,some ⟨g,0,none⟩,1,1,z.cells.toList,false⟩::R):=by
 intro a w o K Q ho _ hs hp hk;obtain⟨i0,hi,zc⟩:=je.1 ee;have hh:=hp.new z.cells e 1 sz (by unfold maxLen;omega) G;unfold Oper.wp
 have hr:(Instr.alloc e true (.tuple #[])).run P w= .ok (.pointer (some ⟨w.heap.size,0,none⟩)) (w.alloc (.cells z.cells e)):=by
  simp[Instr.alloc,zeroValue,typeInfo,hi,zc,newVar,newRow]
 simp only[execOp,ho,jw,hr,kg,pu,Oper.upon];exact hk _ _ _ hh ⟨_,rfl,rfl⟩
theorem bX {e:TypeId} {x:Operand} {v:Value} {sz:Nat} (hx:ev L x=some v) (hz:v.cells.size=sz):Ac P n B w0 (.box e x) ty L R (λu R'=> ∃g,u= .pointer (some ⟨g,0,none⟩)/\R'=⟨e,sz,some ⟨g,0,none⟩,1,1,v.cells.toList,false⟩::R):=by
 intro a w o K Q ho _ hs hp hk;have hh:=hp.new v.cells e 1 sz (by unfold maxLen;omega) G;unfold Oper.wp
 have hr:(Instr.box e v).run P w= .ok (.pointer (some ⟨w.heap.size,0,none⟩)) (w.alloc (.cells v.cells e)):=by
  simp[Instr.box,newVar,newRow]
 simp only[execOp,ho,hs.ev hx,jw,hr,kg,pu,Oper.upon];exact hk _ _ _ hh ⟨_,rfl,rfl⟩
def evp (L:Env):List (Nat × Operand)->Option (List (Nat × Value))
 |[]=>some []
 |(i,x)::r=>match ev L x,evp L r with
  |some v,some vs=>some ((i,v)::vs)
  |_,_=>none
theorem Sat.evp {a:Act} (hs:Sat n L a): ∀ {xs:List (Nat × Operand)} {vs:List (Nat × Value)},evp L xs=some vs->xs.map (λp=>(p.1,a.eval p.2))=vs
 |[],vs,h=>by simpa [Eng.evp] using h
 | (i,x)::r,vs,h=>by
  unfold Eng.evp at h;split at h
  ·rename_i v us h1 h2;obtain rfl:=jg h;rw[jm,hs.ev h1,hs.evp h2]
  ·cases h
theorem rD {t e:TypeId} {z:Value} {sz len:Nat} {ps:List (Nat × Operand)} {vs:List (Nat × Value)} {cells:Array Value} (ht:P.underlying t=some (.slice e)) (ee:(P.info? e).map (λi=>(i.zero,i.size))=some (some z,sz)) (hv:evp L ps=some vs)
  (sq:Nat.ble (len*sz) 16777216=true) (hl:Nat.ble len 16777216=true)
  (v8:Instr.fill (λi=>some (i*sz,sz)) ((Array.range (len*sz)).map ((bif Nat.beq (len*sz) 0 then #[] else z.cells)[· %(bif Nat.beq (len*sz) 0 then #[] else z.cells).size]!)) vs=some cells) (hc:cells.size=len*sz):
  Ac P n B w0 (.buildSlice t len ps.toArray) ty L R (λv R'=> ∃g,v= .slice (some ⟨g,0,none⟩) len len/\R'=⟨e,sz,some ⟨g,0,none⟩,len,len,cells.toList,false⟩::R):=by
 intro a w o K Q ho _ hs hp hk;obtain⟨i0,hi,j6⟩:=je.1 ee;simp only[Ao] at j6;obtain⟨zc,c5⟩:=j6;have Tt:=ak sq;have hlm:=ak hl;have Lu:=hs.evp hv
 have hr:(Instr.buildSlice t len (ps.toArray.map λp=>(p.1,a.eval p.2))).run P w= .ok (.slice (some ⟨w.heap.size,0,none⟩) len len) (w.alloc (.cells cells e)):=by
  have hns: ¬(16777216<len*sz):=G
  by_cases h0:len*sz=0
  ·have e0: ∀f:Nat->Value,Array.map f (Array.range 0)= #[]:=λf=>by simp[Array.range_zero']
   rw[h0,e0] at v8;simp[Instr.buildSlice,ou ht,sizeOf,typeInfo,hi,c5,h0,Lu,newRow,v8,e0]
  ·have hb:Nat.beq (len*sz) 0=false:=by
    cases hb:Nat.beq (len*sz) 0 with
    |true=>exact absurd (yo hb) h0
    |false=>rfl
   simp only[hb,cond_false] at v8;simp[Instr.buildSlice,ou ht,sizeOf,typeInfo,hi,c5,h0,zeroValue,zc,newRow,Lu,v8,hns]
 unfold Oper.wp;simp only[execOp,ho,jw,hr,kg,pu,Oper.upon];exact hk _ _ _ (hp.new cells e len sz (by unfold maxLen;omega) hc) ⟨_,rfl,rfl⟩
theorem aTq (l vs:AG) (j k:Nat) (h1:j+vs.length<=k) (h2:k<=l.length):(l.take j++vs++l.drop (j+vs.length)).take k=(l.take k).take j++vs++(l.take k).drop (j+vs.length):=by
 apply uz;intro i;simp only[qb,List.getElem?_append,ah,ax,sj];have e1:min j l.length=j:=G
 have e2:min j (min k l.length)=j:=G
 rw[e1,e2];by_cases hi:i<k
 ·by_cases hj:i<j
  ·simp[hi,hj,show i<j+vs.length by omega]
  ·by_cases hv:i<j+vs.length
   ·simp[hi,hj,hv]
   ·have:j+vs.length+(i-(j+vs.length))=i:=G
    simp[hi,hv,this]
 ·have h4: ¬i<j+vs.length:=G
  have:j+vs.length+(i-(j+vs.length))=i:=G
  simp[hi,h4,this]
theorem Row.lies_seg {w:World} {r:Row} (h:r.lies B w) (ns:r.ro=false) {g:Nat} (hA:r.A=some ⟨g,0,none⟩) (j:Nat) (vs:AG) (hj:j+vs.length<=r.xs.length) (h1: ∀v∈vs,v.oneCell'=true) {t:TypeId} {v:Value} (hv:v.cells.toList=vs) (gd:(P.info? t).map (·.size)=some vs.length):
  ∃w',(storeVar t ((⟨g,0,none⟩:Addr).add j) v).run P w= .ok () w'/\w.grownBy w' (some g)/\Row.lies B w' {r with xs:=r.xs.take j++vs++r.xs.drop (j+vs.length)}:=by
 have hw:=Row.lies_w h ns;rcases hw.2 with⟨hn,_⟩|⟨g',cap,cur,hs,hb,hg,hnc,sp,jp,ht⟩
 ·rw[hA] at hn;cases hn
 ·rw [hA] at hs;simp only[ko,mr,Am,Aj,zw] at hs;obtain⟨rfl,rfl⟩:=hs;have Pk:r.xs.length=r.n*r.sz:=hw.1;have nw:r.n*r.sz<=cur.size:=by rw[jp];exact vg _ hnc
  have Oj:(⟨g,0,none⟩:Addr).add j=⟨g,j,none⟩:=by unfold Addr.add;split<;>simp_all
  have hr:=run_storeCells_at P g j r.e vs 0 cur w hg cH h1;simp only[rq] at hr;obtain⟨i0,aw,hsz0⟩:=je.1 gd;have hvl:v.cells.size=vs.length:=by rw[<-jq,hv]
  refine⟨w.setRow g (cur.toList.take j++vs++cur.toList.drop (j+vs.length)).toArray,?_,⟨rfl,rfl,rfl,cD,λk _ hk=>Ki w g k _ (λe=>hk (by simp[e]))⟩,?_⟩
  ·rw [Oj];have cg: ¬(v.cells.size≠vs.length):=G
   simp only[storeVar,jw,sizeOf,typeInfo,program,Sem.run,kg,aw,pu,hsz0,cg,yj,hv];exact hr
  ·unfold Row.lies;simp only[ns];refine⟨?_, .inr ⟨g,r.c,_,by rw[hA],hb,Lb w g cur _ r.e _ hg,hnc,sp,?_,?_⟩⟩
   ·simp only[ah,ax,bn];omega
   ·simp only[qx,ah,ax,bn,jq];omega
   ·simp only;rw[aTq _ _ _ _ G (by rw[jq];omega),ht]
theorem RJ {x y:Operand} {t:TypeId} {p:AF} {j:Nat} {r:Row} {v:Value} {vs:AG} {g:Nat} (i:Nat) (hi:R[i]? =some r) (ns:r.ro=false) (hA:r.A=some ⟨g,0,none⟩) (gd:(P.info? t).map (·.size)=some vs.length) (hx:ev L x=some (.pointer p)) (cr:p=pat r.A j) (hy:ev L y=some v) (hv:v.cells.toList=vs) (h1: ∀v∈vs,v.oneCell'=true) (hj:j+vs.length<=r.xs.length):
  Ac P n B w0 (.store t x y) ty L R (λ_ R'=>R'=R.set i {r with xs:=r.xs.take j++vs++r.xs.drop (j+vs.length)}):=by
 intro a w o K Q ho _ hs hp hk;subst cr;obtain⟨w',hr,hg,hl⟩:=Row.lies_seg (P:=P) (hp.own r (gq hi)) ns hA j vs hj h1 hv gd;unfold Oper.wp;simp only[execOp,ho,Instr.storeAt,hs.ev hx,hs.ev hy,pat,hA,kv,Instr.sureAddr,jw,pu,kg,hr,Oper.upon];refine hk undef w' _ ?_ rfl;refine hp.upd hi hg (NS _ _ _ _ hr) (λk hk=> ?_) hl (λa' oe=> .inl ⟨a',oe,rfl⟩);obtain rfl:=jg hk;exact⟨_,hA,rfl⟩
theorem bCq (l:AG) (j:Nat) (v:Value) (h:j<l.length):l.take j++[v]++l.drop (j+1)=l.set j v:=by
 rw[Dy,dm h];simp
theorem YR {x y:Operand} {t:TypeId} {p:AF} {j:Nat} {r:Row} {v:Value} {g:Nat} (i:Nat) (hi:R[i]? =some r) (ns:r.ro=false) (hA:r.A=some ⟨g,0,none⟩) (gd:(P.info? t).map (·.size)=some 1) (hx:ev L x=some (.pointer p)) (cr:p=pat r.A j) (hy:ev L y=some v) (hv:v.cells.toList=[v]) (h1:v.oneCell'=true) (hj:j<r.xs.length):
  Ac P n B w0 (.store t x y) ty L R (λ_ R'=>R'=R.set i {r with xs:=r.xs.set j v}):=by
 have:=RJ (P:=P) (n:=n) (B:=B) (w0:=w0) (ty:=ty) i hi ns hA (vs:=[v]) gd hx cr hy hv (by simpa using h1) (by rw[ic];omega);simpa only[ic,bCq _ _ _ hj] using this
theorem fK {s x:Operand} {t:TypeId} {z:Value} {bytes m c2:Nat} {A2:AF} {r:Row} {news:AG} (i:Nat) (hi:R[i]? =some r) (ns:r.ro=false) (ht:P.underlying t=some (.slice r.e)) (ee:(P.info? r.e).map (λi=>(i.zero,i.size,i.bytes))=some (some z,r.sz,bytes)) (hz:z.cells.size=r.sz) (hsz:Nat.blt 0 r.sz=true) (a8:Nat.blt 0 bytes=true)
  (hs:ev L s=some (.slice r.A r.n r.c)) (hx:ev L x=some (.slice A2 m c2)) (gg:RdC B w0 R A2 m c2 r.sz news) (h1: ∀u∈news,u.oneCell'=true) (kj:(r.n+m)*bytes<=140737488355328):
  Ac P n B w0 (.call {callee:= .builtin .append,args:= #[s,x],argTypes:= #[t,t]}) ty L R (λv R'=> ∃A' c',v= .slice A' (r.n+m) c'/\R'=R.set i ⟨r.e,r.sz,A',r.n+m,c',r.xs++news,false⟩):=by
 intro a w o K Q ho _ en hp hk;obtain⟨i0,aw,j6⟩:=je.1 ee;simp only[Ao] at j6;obtain⟨zc,c5,Hb⟩:=j6;have So:=ak hsz;have hb0':=ak a8;have hr:=hp.own r (gq hi);have fk:=Row.lies_w hr ns;have n8:=gg w hp;have hlen:r.n+m<=140737488355328:=qm (Nat.le_mul_of_pos_right _ hb0') kj
 have kx: ∃v' w',(Builtin.append_ #[t,t] o.type #[.slice r.A r.n r.c, .slice A2 m c2]).run P w= .ok v' w'/\w'.ownsRow B r.e r.sz v' (r.n+m) (r.xs++news)/\w.grownBy w' (Value.ownBlock (.slice r.A r.n r.c))/\(v'.ownBlock=Value.ownBlock (.slice r.A r.n r.c)\/v'.ownBlock=some w.heap.size):=by
  rcases fo m with h0|h0
  ·subst h0;have hn:news=[]:=dw (by rw[n8.len];omega);subst hn;rcases A2 with _|ad
   ·refine ⟨_,w,?_,by simpa using fk,World.grownBy_refl' w _, .inl rfl⟩;rcases fk.2 with⟨hv,hn⟩|⟨g,cap,cur,hv,_,_,hnc,_⟩
    ·rw [hv];simp[Builtin.append_,ou ht,sizeOf,typeInfo,aw,Builtin.lenOf,Builtin.firstCells]
    ·rw [hv];simp[Builtin.append_,ou ht,sizeOf,typeInfo,aw,Builtin.lenOf,Builtin.firstCells,hnc,storeCells]
   ·obtain ⟨v',w',h2,h3,h4,_,h5⟩:=run_append_own_at (P:=P) w B t o.type r.e i0 z r.sz bytes ht aw zc c5 Hb hz So _ r.n r.xs fk ad 0 c2 [] cD (λj u hu=>by simp at hu) h1 (by unfold maxLen;omega) kj hp.base;exact⟨v',w',h2,h3,h4,h5⟩
  ·have cg:0<news.length:=by rw[n8.len];exact Iq h0 So
   obtain⟨ad,rfl,_⟩:=n8.at_ 0 news[0] cD
   obtain⟨v',w',h2,h3,h4,_,h5⟩:=run_append_own_at (P:=P) w B t o.type r.e i0 z r.sz bytes ht aw zc c5 Hb hz So _ r.n r.xs fk ad m c2 news n8.len (λj u hu=>by
    obtain⟨a',oe,hc⟩:=n8.at_ j u hu;obtain rfl:=jg oe
    exact hc) h1 (by unfold maxLen;omega) kj hp.base
   exact⟨v',w',h2,h3,h4,h5⟩
 obtain⟨v',w',h2,h3,h4,h5⟩:=kx
 have Lv: ∃A' c',v'= .slice A' (r.n+m) c':=by
  rcases h3.2 with⟨rfl,hn⟩|⟨g,cap,cur,rfl,_⟩
  ·exact⟨none,0,by rw[hn]⟩
  ·exact⟨_,cap,rfl⟩
 obtain⟨A',c',rfl⟩:=Lv;unfold Oper.wp execOp;simp only[ho,resolve,invoke,builtin,jw,pu,kg,um,jm,rz,en.ev hs,en.ev hx,h2,Oper.upon];refine hk _ w' _ ?_ ⟨A',c',rfl,rfl⟩;refine hp.upd hi h4 (NS _ _ _ _ h2) (λk hk=> ?_) ?_ (λa' oe=> ?_)
 ·cases hA:r.A with
  |none=>rw[hA] at hk;simp[Value.ownBlock] at hk
  |some a1=>rw[hA] at hk;simp only[Value.ownBlock,mr] at hk;exact⟨a1,rfl,hk⟩
 ·exact h3
 ·have Oi:A'=some a':=oe;subst Oi;rcases h5 with h5|h5
  ·cases hA:r.A with
   |none=>rw[hA] at h5;simp[Value.ownBlock] at h5
   |some a1=>rw[hA] at h5;simp only[Value.ownBlock,mr] at h5;exact .inl ⟨a1,rfl,h5.symm⟩
  ·simp only[Value.ownBlock,mr] at h5;exact .inr G
end
end Go.Eng
namespace Go.Eng
open Go Go.RowKit
def bN (P:Program) {α:Type} (m:Sem α):Prop:= ∀w w1 v,m.run P w= .ok v w1-> ∀w',m.run P w'= .ok v w'
def mD (P:Program) {α:Type} (m:Sem α):Prop:= ∀w w1 v,m.run P w≠ .ok v w1
section
variable {P:Program} {α β:Type}
theorem mD.free {m:Sem α} (h:mD P m):bN P m:=λw w1 v e=>absurd e (h w w1 v)
theorem bN.pure (a:α):bN P (Pure.pure a:Sem α):=λw w1 v h w'=>by
 simp only[pu,Dc] at h ⊢;exact⟨h.1,trivial⟩
theorem bN.bind {m:Sem α} {f:α->Sem β} (hm:bN P m) (hf: ∀a,bN P (f a)):bN P (m>>=f):=λw w1 v h w'=>by
 rw[jw] at h ⊢;cases hr:m.run P w with
 |halt x w2=>rw[hr] at h;cases h
 |ok a w2=>
  rw[hr] at h;rw[hm w w2 a hr w'];exact hf a w2 w1 v h w'
theorem mD.bind {m:Sem α} {f:α->Sem β} (hf: ∀a,mD P (f a)):mD P (m>>=f):=λw w1 v h=>by
 rw[jw] at h;cases hr:m.run P w with
 |halt x w2=>rw[hr] at h;cases h
 |ok a w2=>
  rw[hr] at h;exact hf a w2 w1 v h
theorem mD.left {m:Sem α} {f:α->Sem β} (hm:mD P m):mD P (m>>=f):=λw w1 v h=>by
 rw[jw] at h;cases hr:m.run P w with
 |halt x w2=>rw[hr] at h;cases h
 |ok a w2=>exact hm w w2 a hr
theorem dQ (x:Halt):mD P (.halt x:Sem α):=λw w1 v h=>by cases h
theorem xU (e:RuntimeError):mD P (runtimePanic e:Sem α):=by
 unfold runtimePanic;refine mD.bind λp=> ?_;cases e with
 |typeAssertion i c a m=>exact mD.bind λ_=>mD.bind λ_=>dQ _
 |panicNil=>exact mD.bind λ_=>mD.bind λ_=>dQ _
 |_=>exact dQ _
theorem yG (t:TypeId):bN P (underlying t):=by
 unfold underlying;refine bN.bind (λw w1 v h w'=> ?_) λp=> ?_
 ·simp only[program,Sem.run,Dc] at h ⊢;exact⟨h.1,trivial⟩
 ·split
  ·exact bN.pure _
  ·exact(dQ _).free
theorem VC (t:TypeId):bN P (typeInfo t):=by
 unfold typeInfo;refine bN.bind (λw w1 v h w'=> ?_) λp=> ?_
 ·simp only[program,Sem.run,Dc] at h ⊢;exact⟨h.1,trivial⟩
 ·split
  ·exact bN.pure _
  ·exact(dQ _).free
theorem rO (t:TypeId):bN P (sizeOf t):=bN.bind (VC t) λ_=>bN.pure _
theorem pQ (x:Value) (y:Nat) (c:BoundsCode):bN P (Instr.sliceBound x y c):=by
 unfold Instr.sliceBound;refine bN.bind ?_ λp=> ?_
 ·unfold asIntOf;split
  ·exact bN.pure _
  ·exact(dQ _).free
  ·exact(dQ _).free
 ·obtain ⟨k,i⟩:=p;simp only;split
  ·exact bN.pure _
  ·unfold boundsPanic;dsimp only;split
   ·exact(mD.bind λ_=>xU _).free
   ·exact(mD.bind λ_=>xU _).free
theorem tV (b:Bool) (n c:Nat) (lo hi mx:Option Value):bN P (Instr.sliceBounds b n c lo hi mx):=by
 unfold Instr.sliceBounds;cases mx with
 | none=>
  refine bN.bind (bN.pure _) λm=> ?_;cases hi with
  |none=>
   refine bN.bind (bN.pure _) λh=> ?_;cases lo with
   |none=>exact bN.bind (bN.pure _) λl=>bN.pure _
   |some v=>exact bN.bind (pQ _ _ _) λl=>bN.pure _
  |some u=>
   refine bN.bind (pQ _ _ _) λh=> ?_;cases lo with
   |none=>exact bN.bind (bN.pure _) λl=>bN.pure _
   |some v=>exact bN.bind (pQ _ _ _) λl=>bN.pure _
 | some x=>
  refine bN.bind (pQ _ _ _) λm=> ?_;cases hi with
  |none=>exact(mD.left (dQ _)).free
  |some u=>
   refine bN.bind (pQ _ _ _) λh=> ?_;cases lo with
   |none=>exact bN.bind (bN.pure _) λl=>bN.pure _
   |some v=>exact bN.bind (pQ _ _ _) λl=>bN.pure _
theorem aQi (x:Value):bN P (asAddr x):=by
 unfold asAddr;split
 ·exact bN.pure _
 ·exact(xU _).free
 ·exact(dQ _).free
theorem aHl (t:TypeId) (x:Value) (lo hi mx:Option Value):bN P (Instr.slice t x lo hi mx):=by
 unfold Instr.slice;refine bN.bind (yG t) λd=> ?_;split
 ·split
  ·exact(mD.left (dQ _)).free
  ·exact bN.bind (tV _ _ _ _ _ _) λ_=>bN.pure _
 ·exact bN.bind (tV _ _ _ _ _ _) λ_=>bN.bind (rO _) λ_=>bN.pure _
 ·refine bN.bind (aQi _) λ_=>bN.bind (yG _) λ_=> ?_;split
  ·exact bN.bind (tV _ _ _ _ _ _) λ_=>bN.bind (rO _) λ_=>bN.pure _
  ·exact(dQ _).free
 ·exact(dQ _).free
theorem aQg (x:Value):bN P (Instr.sureAddr x):=by
 unfold Instr.sureAddr;split
 ·exact bN.pure _
 ·exact(dQ _).free
theorem XY (t:TypeId) (x:Value) (lo hi mx:Option Value):bN P (Instr.sliceAt t x lo hi mx):=by
 unfold Instr.sliceAt;refine bN.bind (yG t) λd=> ?_;split
 ·exact bN.bind (aQg _) λ_=>bN.bind (tV _ _ _ _ _ _) λ_=>bN.bind (rO _) λ_=>bN.pure _
 ·exact aHl _ _ _ _ _
end
def bLs (P:Program) {α:Type} (m:Sem α):Prop:= ∀w v,m.run P w= .ok v w-> ∀w',m.run P w'= .ok v w'
def jP (P:Program) {α:Type} (m:Sem α):Prop:= ∀w v,m.run P w≠ .ok v w
section
variable {P:Program} {α β:Type}
theorem bN.stay {m:Sem α} (h:bN P m):bLs P m:=λw v e=>h w w v e
theorem jP.stay {m:Sem α} (h:jP P m):bLs P m:=λw v e=>absurd e (h w v)
theorem mD.noSame {m:Sem α} (h:mD P m):jP P m:=λw v e=>h w w v e
theorem jP.bind {m:Sem α} {f:α->Sem β} (hm:bN P m) (hf: ∀a,jP P (f a)):jP P (m>>=f):=λw v h=>by
 rw[jw] at h;cases hr:m.run P w with
 |halt x w2=>rw[hr] at h;cases h
 |ok a w2=>
  have h2:=hm w w2 a hr w;rw[hr] at h2;cases h2;rw[hr] at h;exact hf a w v h
theorem jP.left {m:Sem α} {f:α->β} (hm:jP P m):jP P (m>>=λa=>(Pure.pure (f a):Sem β)):=λw v h=>by
 rw[jw] at h;cases hr:m.run P w with
 |halt x w2=>rw[hr] at h;cases h
 |ok a w2=>
  rw[hr] at h;simp only[Result.andThen,pu,Dc] at h;rw[h.2] at hr;exact hm w a hr
theorem VB (t:TypeId):bN P (zeroValue t):=by
 unfold zeroValue;refine bN.bind (VC t) λi=> ?_;split
 ·exact bN.pure _
 ·exact(dQ _).free
theorem uF (e:TypeId) (cs:Array Value):jP P (newRow e cs):=λw v h=>by
 simp[newRow,newObj,Sem.run,Result.andThen] at h;have:=bq (λw:World=>w.heap.size) h.2;unfold World.alloc at this;simp only[Array.size_push] at this;omega
theorem QD (f:α->Sem β) (hf: ∀a,bN P (f a)): ∀l:List α,bN P (l.mapM f)
 |[]=>by rw[List.mapM_nil];exact bN.pure _
 |a::l=>by
  rw[List.mapM_cons];exact bN.bind (hf a) λ_=>bN.bind (QD f hf l) λ_=>bN.pure _
theorem aQh (f:α->Sem β) (hf: ∀a,bN P (f a)) (l:Array α):bN P (l.mapM f):=by
 rw[Array.mapM_eq_mapM_toList,<-bind_pure_comp];exact bN.bind (QD f hf _) λ_=>bN.pure _
theorem aHm (t:TypeId) (ps:Array (Nat × Value)):bN P (Instr.build t ps):=by
 unfold Instr.build;refine bN.bind (VB t) λz=> ?_;refine bN.bind (yG t) λd=> ?_;split
 ·refine bN.bind (aQh _ (λ_=>bN.bind (rO _) λ_=>bN.pure _) _) λ_=> ?_;split
  ·exact bN.pure _
  ·exact(dQ _).free
 ·refine bN.bind (rO _) λ_=> ?_;split
  ·exact bN.pure _
  ·exact(dQ _).free
 ·exact(dQ _).free
theorem EO (t:TypeId) (n:Nat) (ps:Array (Nat × Value)):jP P (Instr.buildSlice t n ps):=by
 unfold Instr.buildSlice;refine jP.bind (yG t) λd=> ?_;split
 ·refine jP.bind (rO _) λs=> ?_;dsimp only;split
  ·exact(mD.left (dQ _)).noSame
  ·split
   ·refine jP.bind (bN.pure _) λz=> ?_;split
    ·exact jP.left (uF _ _)
    ·exact(dQ _).noSame
   ·refine jP.bind (VB _) λz=> ?_;refine jP.bind (bN.pure _) λz=> ?_;split
    ·exact jP.left (uF _ _)
    ·exact(dQ _).noSame
 ·exact(dQ _).noSame
theorem aGs (t:TypeId) (v:Value):jP P (Instr.box t v):=jP.left (uF _ _)
end
def aXw:Op->Bool
 | .move _=>true
 | .slice .. =>true
 | .build .. =>true
 | .buildSlice .. =>true
 | .box .. =>true
 | .extract .. =>true
 |_=>false
theorem XZ {P:Program} (v:Value) (i:Nat):bN P (Instr.extract v i):=by
 unfold Instr.extract
 repeat' first
  |exact bN.pure _
  |exact(dQ _).free
  |split
theorem bFg {P:Program} {o:Oper} (h:aXw o.op=true) (ρ:Operand->Value):bLs P (execOp ρ o):=by
 unfold execOp;cases ho:o.op<;>(try (rw[ho] at h;cases h))
 all_goals first
  |exact(bN.pure _).stay
  |exact(jP.left (aGs _ _)).stay
  |exact(bN.bind (aHm _ _) λ_=>bN.pure _).stay
  |exact(jP.left (EO _ _ _)).stay
  |exact(bN.bind (XY _ _ _ _ _) λ_=>bN.pure _).stay
  |exact(bN.bind (XZ _ _) λ_=>bN.pure _).stay
section
variable {P:Program} {ops:Array Oper} {Q:Exit->Act->World->Prop}
def anc (ops:Array Oper):Nat->Nat->Nat->Bool
 |0,_,_=>false
 |f+1,j,k=>((ops[j]?).map (·.after.any λe=>Region.binds .any e && (Nat.beq e.on k||anc ops f e.on k))).getD false
def RD (ops:Array Oper) (ab:AI) (i:Nat):Bool:=
 (List.range ops.size).all λk=> !ab.getD k false||anc ops ops.size i k||((ops[k]?).map (aXw ·.op)).getD false
def wB (ops:Array Oper) (ab:AI):Bool:=
 (List.range ops.size).all λk=> !ab.getD k false||((ops[k]?).map (·.after.all λe=> !Region.binds .any e||ab.getD e.on false)).getD false
theorem FY {ab:AI} (h:wB ops ab=true) {k:Nat} {o:Oper} (hk:ops[k]? =some o) (hl:ab.getD k false=true): ∀e∈o.after,Region.binds .any e=true->ab.getD e.on false=true:=by
 intro e he hb;have br:k<ops.size:=(gu.1 hk).1;have:=vw.1 h k (jy.2 br);rw[hl,hk] at this;simp only[Ff,Je,kv,qd] at this;obtain⟨q,hq,rfl⟩:=Array.mem_iff_getElem.1 he;have h2:=Ii.1 this q hq;rw[hb] at h2;simpa using h2
theorem RH {ab:AI} (hc:wB ops ab=true): ∀(f j k:Nat) (oj:Oper),ops[j]? =some oj->(∀e∈oj.after,Region.binds .any e=true->ab.getD e.on false=true)->anc ops f j k=true->ab.getD k false=true
 |0,_,_,_,_,_,h=>by cases h
 | f+1,j,k,oj,Pa,gl,h=>by
  unfold anc at h;rw[Pa] at h;simp only[kv,qd,Array.any_eq_true] at h;obtain⟨q,hq,h⟩:=h;have he:oj.after[q]∈oj.after:=Ij hq;simp only[qh,Bh] at h;have hl:=gl _ he h.1;rcases h.2 with h2|h2
  ·rw[<-yo h2];exact hl
  ·cases ho:ops[oj.after[q].on]? with
   |none=>
    exfalso;cases f with
    |zero=>cases h2
    |succ f=>unfold anc at h2;rw[ho] at h2;simp at h2
   |some om=>exact RH hc f _ k om ho (FY hc ho hl) h2
theorem aDt {ab:AI} (hc:wB ops ab=true) {j:Nat} {oj:Oper} (Pa:ops[j]? =some oj) (gl: ∀e∈oj.after,Region.binds .any e=true->ab.getD e.on false=true):wB ops (ab.setIfInBounds j true)=true:=by
 have up: ∀k,ab.getD k false=true->(ab.setIfInBounds j true).getD k false=true:=by
  intro k hk;by_cases e:j=k
  ·subst e
   have br:j<ab.size:=by
    rcases gp j ab.size with h|h
    ·exact h
    ·simp[Dz h] at hk
   simp[br]
  ·simp only[zk,Bg,e,yj] at hk ⊢;exact hk
 unfold wB;refine vw.2 λk hk=> ?_;by_cases Tg:k=j
 ·subst Tg;rw[Pa];simp only[kv,qd]
  have:(oj.after.all λe=> !Region.binds .any e||(ab.setIfInBounds k true).getD e.on false)=true:=by
   refine Ii.2 λq hq=> ?_;cases hb:Region.binds .any oj.after[q] with
   |false=>rfl
   |true=>simp only[Ff,Je];exact up _ (gl _ (Ij hq) hb)
  rw[this,Bool.or_true]
 ·cases hl:ab.getD k false with
  | false=>
   have:(ab.setIfInBounds j true).getD k false=false:=by
    simp only[zk,Bg,Ir Tg,yj] at hl ⊢;exact hl
   rw[this];rfl
  | true=>
   cases ho:ops[k]? with
   |none=>
    have h0:=jy.1 hk;rw[Array.getElem?_eq_none_iff] at ho;omega
   | some ok=>
    have h1:=FY hc ho hl
    have:(ok.after.all λe=> !Region.binds .any e||(ab.setIfInBounds j true).getD e.on false)=true:=by
     refine Ii.2 λq hq=> ?_;cases hb:Region.binds .any ok.after[q] with
     |false=>rfl
     |true=>simp only[Ff,Je];exact up _ (h1 _ (Ij hq) hb)
    simp only[kv,qd,this,Bool.or_true]
def wY (P:Program) (ops:Array Oper) (Q:Exit->Act->World->Prop):Nat->(World->Prop)->AI->Act->World->Prop
 |0,_,ab,a,w=>Region.ready .any ops ab=[]/\Q .normal a w
 |bo+1,S,ab,a,w=>(Region.ready .any ops ab=[]->Q .normal a w)/\
  ∀i∈Region.ready .any ops ab,wpOp P ops Q i (λa' w'=> ∃S':World->Prop,S' w'/\(RD ops ab i=true\/ ∀x,S' x->S x)/\wY P ops Q bo S' (ab.setIfInBounds i true) a' w') a w
theorem BC: ∀(bo:Nat) (S:World->Prop) (ab:AI) (a:Act) (w:World),wY P ops Q bo S ab a w->wpAny P .any ops Q bo ab a w
 |0,_,_,_,_,h=>h
 |bo+1,_,_,_,_,h=>⟨h.1,λi hi=>wpOp_mono (λa' w' ⟨S',_,_,h'⟩=>BC bo S' _ a' w' h') (h.2 i hi)⟩
theorem YieldsIf.shrink {S S':World->Prop} {o:Oper} {v:Value} {a:Act} (h:YieldsIf P ops S o v a) (hs: ∀x,S' x->S x):YieldsIf P ops S' o v a:=
 h.imp (λ⟨hw,hv⟩=>⟨hw,λw Qo=>hv w (hs w Qo)⟩) id
theorem CQ {i:Nat} {oi:Oper} {v:Value} (hi:ops[i]? =some oi) (Xm: ∀(j:Nat) (o:Oper) cs b,ops[j]? =some o->o.op≠ .select cs b)
  (hQ: ∀c a w,Q (.panic c) (a.put oi.dst v) w->Q (.panic c) a w):
  ∀(bo:Nat) (S:World->Prop) (ab:AI) (a:Act) (w:World),
   wB ops ab=true->(∀j oj,ops[j]? =some oj->j≠i->ab.getD j true=false->(∀e∈oj.after,Region.binds .any e=true->e.on≠i)->oi.apart ops oj=true)->
   i∈Region.ready .any ops ab->YieldsIf P ops S oi v a->S w->
   wY P ops Q bo S (ab.setIfInBounds i true) (a.put oi.dst v) w->wY P ops Q (bo+1) S ab a w:=by
 intro bo
 induction bo with
 | zero=>
  intro S ab a w _ _ hr hy hS H;refine⟨λh=>(by rw[h] at hr;cases hr),λj hj=> ?_⟩;by_cases Fl:j=i
  ·subst Fl;exact hy.wpOp hi hS ⟨S,hS, .inr λ_ h=>h,H⟩
  ·have:=ready_mono hj Fl;rw[H.1] at this;cases this
 | succ bo ih=>
  intro S ab a w kf Qb hr hy hS H;refine⟨λh=>(by rw[h] at hr;cases hr),λj hj=> ?_⟩;by_cases Fl:j=i
  ·subst Fl;exact hy.wpOp hi hS ⟨S,hS, .inr λ_ h=>h,H⟩
  ·have h1:=H.2 j (ready_mono hj Fl);obtain⟨Wc,oj,Pa,gl⟩:=mem_ready.1 hj
   have i5:i<ab.size:=by
    have h0:=(mem_ready.1 hr).1;rcases gp i ab.size with h'|h'
    ·exact h'
    ·simp[Dz h'] at h0
   have Oz: ∀e∈oj.after,Region.binds .any e=true->e.on≠i:=λe he hb Fk=>by
    have h1:=gl e he hb;have h0:=(mem_ready.1 hr).1;rw[Fk] at h1;simp[i5] at h0 h1;rw[h0] at h1;cases h1
   have h2:=wpOp_putIf Pa (Qb j oj Pa Fl Wc Oz) (λcs b=>Xm i oi cs b hi) (λcs b=>Xm j oj cs b Pa) hQ hy h1
   have Ru: ∀k ok,ops[k]? =some ok->k≠i->(ab.setIfInBounds j true).getD k true=false->
     (∀e∈ok.after,Region.binds .any e=true->e.on≠i)->oi.apart ops ok=true:=λk ok hk Zg Mx vi=>by
    refine Qb k ok hk Zg ?_ vi;by_cases hjk:j=k
    ·subst hjk;exact Wc
    ·rw[getD_set_ne true hjk] at Mx;exact Mx
   refine wpOp_mono (λa' w' ⟨hy',S',hS',yp,hB⟩=> ?_) h2
   have Mx:ab.getD i false=false:=by
    have h0:=(mem_ready.1 hr).1;simp[i5] at h0 ⊢;exact h0
   have Py:(RD ops ab j=true\/ ∀x,S' x->S x)/\YieldsIf P ops S' oi v a':=by
    rcases yp with hb|hs
    ·have hio:i<ops.size:=(gu.1 hi).1;have ux:=vw.1 hb i (jy.2 hio);have e1:(ab.setIfInBounds i true).getD i false=true:=by simp[i5]
     rw[e1,hi] at ux;simp only[Ff,Je,kv,qd,Bh] at ux;rcases ux with ha|hm
     ·have:=RH kf _ j i oj Pa gl ha;rw[Mx] at this;cases this
     ·refine ⟨.inl ?_,?_⟩
      ·refine vw.2 λk hk=> ?_;have h3:=vw.1 hb k hk;by_cases e:i=k
       ·subst e;rw[Mx];rfl
       ·simp only[zk,Bg,e,yj] at h3 ⊢;exact h3
      ·exact hy'.imp (λ⟨hw,hv⟩=>⟨hw,λSu _=>bFg hm _ _ _ (hv w hS) Su⟩) id
    ·exact⟨.inr hs,YieldsIf.shrink hy' hs⟩
   refine⟨S',hS',Py.1,ih S' (ab.setIfInBounds j true) a' w' (aDt kf Pa gl) Ru (ready_mono hr (Ir Fl)) Py.2 hS' ?_⟩;rw[Array.setIfInBounds_comm _ _ Fl];exact hB
end
section
variable {P:Program} {n:Nd} {B:Nat} {w0:World} {ops:Array Oper} {K:Env->List Row->Prop} {L:Env} {R:List Row} {op:Op} {ty:TypeId} {pos:String} {ph:Array Edge}
def WD (P:Program) (n:Nd) (B:Nat) (w0:World) (ops:Array Oper) (K:Env->List Row->Prop) (bo:Nat) (ab:AI) (L:Env) (R:List Row):Prop:=
 ∀a w (Q:Exit->Act->World->Prop),Sat n L a->Hp B w0 w R->(∀c a w,¬Q (.panic c) a w)->(∀a' w' L' R',Sat n L' a'->Hp B w0 w' R'->K L' R'->Q .normal a' w')->wY P ops Q bo (λw=>Hp B w0 w R) ab a w
theorem bD {id:Nat} {l:List Oper} {Q:gF} (hm:P.follows .mixedOrders=true) (h:WD P n B w0 l.toArray Q.nrm l.toArray.size (Array.replicate l.toArray.size false) L R) (hd:EQ n.rd l=true:=by exact rfl):W P n B w0 (.region id l.toArray true) Q L R:=by
 intro a w hs hp;refine wpIn_region_any hm (aEf aJj hd _ _ _ _<|BC _ _ _ _ _ (h a _ _ hs (hp.drawn _ (Ip _)) (λ_ _ _ h=>h) λ_ _ L' R' en cr hk=>⟨L',R',en,cr,hk⟩))
def chk (ops:Array Oper) (ab:AI) (i:Nat):Bool:=Region.noSelect ops && Region.free .any ops ab i && (Region.ready .any ops ab).contains i && wB ops ab
theorem LB {i:Nat} {d:Nat} {v:Value} {o:Oper} {bo:Nat} {ab:AI} (hi:ops[i]? =some o) (hd:o.dst=some d) (hc:chk ops ab i=true) (hn:Nat.blt d n=true)
  (hy: ∀a,Sat n L a->YieldsIf P ops (λw=>Hp B w0 w R) o v a) (h:WD P n B w0 ops K bo (ab.setIfInBounds i true) ((d,v)::L) R):WD P n B w0 ops K (bo+1) ab L R:=by
 intro a w Q hs hp kl hq;simp only[chk,qh] at hc;obtain⟨⟨⟨h1,h2⟩,h3⟩,h4⟩:=hc;refine CQ hi (Region.noSelect_spec h1) (λc a w hh=>(kl c _ w hh).elim) bo _ ab a w h4 (Region.free_spec hi h2) (by simpa using h3) (hy a hs) hp ?_;rw[hd];exact h _ w Q (hs.put hn v) hp kl hq
theorem bRa {d:Nat} {v:Value} {bo:Nat} {ab:AI} (i:Nat) (hi:ops[i]? =some {dst:=some d,op:=op,type:=ty,pos:=pos,after:=ph,guard:=none}) (hc:chk ops ab i=true) (hn:Nat.blt d n=true)
  (hy:Yl P n B w0 op ty L R v) (h:WD P n B w0 ops K bo (ab.setIfInBounds i true) ((d,v)::L) R):WD P n B w0 ops K (bo+1) ab L R:=
 LB hi rfl hc hn (λa hs=> .inl ⟨rfl,λw hw=>hy a w _ rfl rfl hs hw⟩) h
theorem bMi {d j e:Nat} {want:Bool} {v:Value} {bo:Nat} {ab:AI} (i:Nat) (hi:ops[i]? =some {dst:=some d,op:=op,type:=ty,pos:=pos,after:=ph,guard:=some (j,want)}) (hc:chk ops ab i=true) (hn:Nat.blt d n=true)
  (hj:(ops[j]?).bind (·.dst)=some e) (hb:lk L e=some (.bool want)) (hy:Yl P n B w0 op ty L R v) (h:WD P n B w0 ops K bo (ab.setIfInBounds i true) ((d,v)::L) R):WD P n B w0 ops K (bo+1) ab L R:=
 LB hi rfl hc hn (λa hs=> .inl ⟨by simp[Region.wanted,rU hs hj hb],λw hw=>hy a w _ rfl rfl hs hw⟩) h
theorem bMj {d j e:Nat} {want b:Bool} {bo:Nat} {ab:AI} (i:Nat) (hi:ops[i]? =some {dst:=some d,op:=op,type:=ty,pos:=pos,after:=ph,guard:=some (j,want)}) (hc:chk ops ab i=true) (hn:Nat.blt d n=true)
  (hj:(ops[j]?).bind (·.dst)=some e) (hb:lk L e=some (.bool b)) (cg:(b==want)=false) (h:WD P n B w0 ops K bo (ab.setIfInBounds i true) ((d,undef)::L) R):WD P n B w0 ops K (bo+1) ab L R:=
 LB hi rfl hc hn (λa hs=> .inr ⟨by simp only[Region.wanted,rU hs hj hb];cases b<;>cases want<;>simp_all,rfl⟩) h
theorem fD {d j e:Nat} {want:Bool} {bo:Nat} {ab:AI} (i:Nat) (hi:ops[i]? =some {dst:=some d,op:=op,type:=ty,pos:=pos,after:=ph,guard:=some (j,want)}) (hc:chk ops ab i=true) (hn:Nat.blt d n=true)
  (hj:(ops[j]?).bind (·.dst)=some e) (hb:lk L e=some undef) (h:WD P n B w0 ops K bo (ab.setIfInBounds i true) ((d,undef)::L) R):WD P n B w0 ops K (bo+1) ab L R:=
 LB hi rfl hc hn (λa hs=> .inr ⟨by simp[Region.wanted,zZ hs hj hb],rfl⟩) h
theorem bIu {bo:Nat} {ab:AI} (hr:Region.ready .any ops ab=[]) (h:K L R):WD P n B w0 ops K bo ab L R:=by
 intro a w Q hs hp kl hq;cases bo with
 |zero=>exact⟨hr,hq _ _ L R hs hp h⟩
 |succ bo=>exact⟨λ_=>hq _ _ L R hs hp h,by rw[hr];simp⟩
theorem aEr {i:Nat} {o:Oper} {Post:Value->List Row->Prop} {bo:Nat} {ab:AI} (hi:ops[i]? =some o) (hr:Region.ready .any ops ab=[i]) (hg: ∀a,Sat n L a->Region.wanted o (yielded ops a.tmps)=true) (ha:Ac P n B w0 o.op o.type L R Post)
  (hn: ∀v a,Sat n L a->Sat n (match o.dst with|some d=>(d,v)::L|none=>L) (a.put o.dst v))
  (h: ∀v R',Post v R'->(RD ops ab i=true\/ ∀w,Hp B w0 w R'->Hp B w0 w R)/\WD P n B w0 ops K bo (ab.setIfInBounds i true) (match o.dst with|some d=>(d,v)::L|none=>L) R'):WD P n B w0 ops K (bo+1) ab L R:=by
 intro a w Q hs hp kl hq;refine⟨λh0=>absurd (hr▸h0) cD,λj hj=> ?_⟩;rw[hr] at hj;obtain rfl:=ig.1 hj;unfold wpOp;simp only[hi,hg a hs,Kh];refine .inl (ha a w o _ Q rfl rfl hs hp λv w' R' cr hv=> ?_);obtain⟨h1,h2⟩:=h v R' hv;exact⟨λw=>Hp B w0 w R',cr,h1,h2 _ w' Q (hn v a hs) cr kl hq⟩
theorem bRc {d:Nat} {Post:Value->List Row->Prop} {bo:Nat} {ab:AI} (i:Nat) (hi:ops[i]? =some {dst:=some d,op:=op,type:=ty,pos:=pos,after:=ph,guard:=none}) (hr:Region.ready .any ops ab=[i]) (hn:Nat.blt d n=true) (ha:Ac P n B w0 op ty L R Post)
  (h: ∀v R',Post v R'->(RD ops ab i=true\/ ∀w,Hp B w0 w R'->Hp B w0 w R)/\WD P n B w0 ops K bo (ab.setIfInBounds i true) ((d,v)::L) R'):WD P n B w0 ops K (bo+1) ab L R:=
 aEr hi hr (λ_ _=>rfl) ha (λv _ hs=>hs.put hn v) h
theorem qD {d j e:Nat} {want:Bool} {Post:Value->List Row->Prop} {bo:Nat} {ab:AI} (i:Nat) (hi:ops[i]? =some {dst:=some d,op:=op,type:=ty,pos:=pos,after:=ph,guard:=some (j,want)}) (hr:Region.ready .any ops ab=[i]) (hn:Nat.blt d n=true)
  (hj:(ops[j]?).bind (·.dst)=some e) (hb:lk L e=some (.bool want)) (ha:Ac P n B w0 op ty L R Post)
  (h: ∀v R',Post v R'->(RD ops ab i=true\/ ∀w,Hp B w0 w R'->Hp B w0 w R)/\WD P n B w0 ops K bo (ab.setIfInBounds i true) ((d,v)::L) R'):WD P n B w0 ops K (bo+1) ab L R:=
 aEr hi hr (λa hs=>by simp[Region.wanted,rU hs hj hb]) ha (λv _ hs=>hs.put hn v) h
theorem qC {Post:Value->List Row->Prop} {bo:Nat} {ab:AI} (i:Nat) (hi:ops[i]? =some {dst:=none,op:=op,type:=ty,pos:=pos,after:=ph,guard:=none}) (hr:Region.ready .any ops ab=[i]) (ha:Ac P n B w0 op ty L R Post)
  (h: ∀v R',Post v R'->(RD ops ab i=true\/ ∀w,Hp B w0 w R'->Hp B w0 w R)/\WD P n B w0 ops K bo (ab.setIfInBounds i true) L R'):WD P n B w0 ops K (bo+1) ab L R:=
 aEr hi hr (λ_ _=>rfl) ha (λ_ _ hs=>hs) h
theorem jH {bo:Nat} {ab:AI} (d:Nat) {p:Prop} [Decidable p] (hb:lk L d=some (.bool (decide p))) (ht:p->WD P n B w0 ops K bo ab ((d, .bool true)::L) R) (hf: ¬p->WD P n B w0 ops K bo ab ((d, .bool false)::L) R):WD P n B w0 ops K bo ab L R:=by
 intro a w Q hs hp hq;by_cases h:p
 ·exact ht h a w Q (hs.sub (rJ (by rw[hb,ky h]))) hp hq
 ·exact hf h a w Q (hs.sub (rJ (by rw[hb,nk h]))) hp hq
theorem fM {bo:Nat} {ab:AI} {d:Nat} {u v:Value} (hu:u=v) (h:WD P n B w0 ops K bo ab ((d,v)::L) R):WD P n B w0 ops K bo ab ((d,u)::L) R:=by
 subst hu;exact h
theorem nS {bo:Nat} {ab:AI} {R1:List Row} (hR:R=R1) (h:WD P n B w0 ops K bo ab L R1):WD P n B w0 ops K bo ab L R:=by
 subst hR;exact h
end
end Go.Eng
namespace Go.Eng
open Go Go.RowKit
section
variable {P:Program} {n:Nd} {B:Nat} {w0:World}
theorem fG {σ0:Type} {c:Code} {Q:gF} {L:Env} {R:List Row} (Lx:σ0->Env) (Rx:σ0->List Row) (J:σ0->Prop) (μ:σ0->Nat)
  (h0: ∃x0,J x0/\Sub (Lx x0) L/\ ∀w,Hp B w0 w R->Hp B w0 w (Rx x0))
  (round: ∀x0,J x0->W P n B w0 c {Q with nrm:=λL' R'=> ∃y0,J y0/\μ y0<μ x0/\Sub (Lx y0) L'/\ ∀w,Hp B w0 w R'->Hp B w0 w (Rx y0)} (Lx x0) (Rx x0)):W P n B w0 (.loop c) Q L R:=by
 obtain⟨x0,h1,h2,h3⟩:=h0;refine qN (σ:=σ0) (λp=>Lx p) (λp=>Rx p) (λp=>J p) (λp=>μ p) ⟨x0,h1,h2,h3⟩ λp hp=>jA (round p hp) ?_ (λ_ _ h=>h) (λ_ _ _ h=>h);rintro L' R' ⟨y0,g1,g2,g3,g4⟩;exact⟨y0,⟨g1,g2⟩,g3,g4⟩
theorem dI {σ0 σ1:Type} {c:Code} {Q:gF} {L:Env} {R:List Row} (Lx:σ0->σ1->Env) (Rx:σ0->σ1->List Row) (J:σ0->σ1->Prop) (μ:σ0->σ1->Nat)
  (h0: ∃x0 x1,J x0 x1/\Sub (Lx x0 x1) L/\ ∀w,Hp B w0 w R->Hp B w0 w (Rx x0 x1))
  (round: ∀x0 x1,J x0 x1->W P n B w0 c {Q with nrm:=λL' R'=> ∃y0 y1,J y0 y1/\μ y0 y1<μ x0 x1/\Sub (Lx y0 y1) L'/\ ∀w,Hp B w0 w R'->Hp B w0 w (Rx y0 y1)} (Lx x0 x1) (Rx x0 x1)):W P n B w0 (.loop c) Q L R:=by
 obtain⟨x0,x1,h1,h2,h3⟩:=h0;refine qN (σ:=σ0 × σ1) (λp=>Lx p.1 p.2) (λp=>Rx p.1 p.2) (λp=>J p.1 p.2) (λp=>μ p.1 p.2) ⟨(x0,x1),h1,h2,h3⟩ λp hp=>jA (round p.1 p.2 hp) ?_ (λ_ _ h=>h) (λ_ _ _ h=>h);rintro L' R' ⟨y0,y1,g1,g2,g3,g4⟩;exact⟨(y0,y1),⟨g1,g2⟩,g3,g4⟩
theorem fZ {σ0 σ1 σ2:Type} {c:Code} {Q:gF} {L:Env} {R:List Row} (Lx:σ0->σ1->σ2->Env) (Rx:σ0->σ1->σ2->List Row) (J:σ0->σ1->σ2->Prop) (μ:σ0->σ1->σ2->Nat)
  (h0: ∃x0 x1 x2,J x0 x1 x2/\Sub (Lx x0 x1 x2) L/\ ∀w,Hp B w0 w R->Hp B w0 w (Rx x0 x1 x2))
  (round: ∀x0 x1 x2,J x0 x1 x2->W P n B w0 c {Q with nrm:=λL' R'=> ∃y0 y1 y2,J y0 y1 y2/\μ y0 y1 y2<μ x0 x1 x2/\Sub (Lx y0 y1 y2) L'/\ ∀w,Hp B w0 w R'->Hp B w0 w (Rx y0 y1 y2)} (Lx x0 x1 x2) (Rx x0 x1 x2)):W P n B w0 (.loop c) Q L R:=by
 obtain⟨x0,x1,x2,h1,h2,h3⟩:=h0;refine qN (σ:=σ0 × σ1 × σ2) (λp=>Lx p.1 p.2.1 p.2.2) (λp=>Rx p.1 p.2.1 p.2.2) (λp=>J p.1 p.2.1 p.2.2) (λp=>μ p.1 p.2.1 p.2.2) ⟨(x0,x1,x2),h1,h2,h3⟩ λp hp=>jA (round p.1 p.2.1 p.2.2 hp) ?_ (λ_ _ h=>h) (λ_ _ _ h=>h);rintro L' R' ⟨y0,y1,y2,g1,g2,g3,g4⟩;exact⟨(y0,y1,y2),⟨g1,g2⟩,g3,g4⟩
theorem LC {σ0 σ1 σ2 σ3:Type} {c:Code} {Q:gF} {L:Env} {R:List Row} (Lx:σ0->σ1->σ2->σ3->Env) (Rx:σ0->σ1->σ2->σ3->List Row) (J:σ0->σ1->σ2->σ3->Prop) (μ:σ0->σ1->σ2->σ3->Nat)
  (h0: ∃x0 x1 x2 x3,J x0 x1 x2 x3/\Sub (Lx x0 x1 x2 x3) L/\ ∀w,Hp B w0 w R->Hp B w0 w (Rx x0 x1 x2 x3))
  (round: ∀x0 x1 x2 x3,J x0 x1 x2 x3->W P n B w0 c {Q with nrm:=λL' R'=> ∃y0 y1 y2 y3,J y0 y1 y2 y3/\μ y0 y1 y2 y3<μ x0 x1 x2 x3/\Sub (Lx y0 y1 y2 y3) L'/\ ∀w,Hp B w0 w R'->Hp B w0 w (Rx y0 y1 y2 y3)} (Lx x0 x1 x2 x3) (Rx x0 x1 x2 x3)):W P n B w0 (.loop c) Q L R:=by
 obtain⟨x0,x1,x2,x3,h1,h2,h3⟩:=h0;refine qN (σ:=σ0 × σ1 × σ2 × σ3) (λp=>Lx p.1 p.2.1 p.2.2.1 p.2.2.2) (λp=>Rx p.1 p.2.1 p.2.2.1 p.2.2.2) (λp=>J p.1 p.2.1 p.2.2.1 p.2.2.2) (λp=>μ p.1 p.2.1 p.2.2.1 p.2.2.2) ⟨(x0,x1,x2,x3),h1,h2,h3⟩ λp hp=>jA (round p.1 p.2.1 p.2.2.1 p.2.2.2 hp) ?_ (λ_ _ h=>h) (λ_ _ _ h=>h);rintro L' R' ⟨y0,y1,y2,y3,g1,g2,g3,g4⟩;exact⟨(y0,y1,y2,y3),⟨g1,g2⟩,g3,g4⟩
theorem fE {σ0 σ1 σ2 σ3 σ4:Type} {c:Code} {Q:gF} {L:Env} {R:List Row} (Lx:σ0->σ1->σ2->σ3->σ4->Env) (Rx:σ0->σ1->σ2->σ3->σ4->List Row) (J:σ0->σ1->σ2->σ3->σ4->Prop) (μ:σ0->σ1->σ2->σ3->σ4->Nat)
  (h0: ∃x0 x1 x2 x3 x4,J x0 x1 x2 x3 x4/\Sub (Lx x0 x1 x2 x3 x4) L/\ ∀w,Hp B w0 w R->Hp B w0 w (Rx x0 x1 x2 x3 x4))
  (round: ∀x0 x1 x2 x3 x4,J x0 x1 x2 x3 x4->W P n B w0 c {Q with nrm:=λL' R'=> ∃y0 y1 y2 y3 y4,J y0 y1 y2 y3 y4/\μ y0 y1 y2 y3 y4<μ x0 x1 x2 x3 x4/\Sub (Lx y0 y1 y2 y3 y4) L'/\ ∀w,Hp B w0 w R'->Hp B w0 w (Rx y0 y1 y2 y3 y4)} (Lx x0 x1 x2 x3 x4) (Rx x0 x1 x2 x3 x4)):W P n B w0 (.loop c) Q L R:=by
 obtain⟨x0,x1,x2,x3,x4,h1,h2,h3⟩:=h0;refine qN (σ:=σ0 × σ1 × σ2 × σ3 × σ4) (λp=>Lx p.1 p.2.1 p.2.2.1 p.2.2.2.1 p.2.2.2.2) (λp=>Rx p.1 p.2.1 p.2.2.1 p.2.2.2.1 p.2.2.2.2) (λp=>J p.1 p.2.1 p.2.2.1 p.2.2.2.1 p.2.2.2.2) (λp=>μ p.1 p.2.1 p.2.2.1 p.2.2.2.1 p.2.2.2.2) ⟨(x0,x1,x2,x3,x4),h1,h2,h3⟩ λp hp=>jA (round p.1 p.2.1 p.2.2.1 p.2.2.2.1 p.2.2.2.2 hp) ?_ (λ_ _ h=>h) (λ_ _ _ h=>h);rintro L' R' ⟨y0,y1,y2,y3,y4,g1,g2,g3,g4⟩;exact⟨(y0,y1,y2,y3,y4),⟨g1,g2⟩,g3,g4⟩
theorem nT {σ0 σ1 σ2 σ3 σ4 σ5:Type} {c:Code} {Q:gF} {L:Env} {R:List Row} (Lx:σ0->σ1->σ2->σ3->σ4->σ5->Env) (Rx:σ0->σ1->σ2->σ3->σ4->σ5->List Row) (J:σ0->σ1->σ2->σ3->σ4->σ5->Prop) (μ:σ0->σ1->σ2->σ3->σ4->σ5->Nat)
  (h0: ∃x0 x1 x2 x3 x4 x5,J x0 x1 x2 x3 x4 x5/\Sub (Lx x0 x1 x2 x3 x4 x5) L/\ ∀w,Hp B w0 w R->Hp B w0 w (Rx x0 x1 x2 x3 x4 x5))
  (round: ∀x0 x1 x2 x3 x4 x5,J x0 x1 x2 x3 x4 x5->W P n B w0 c {Q with nrm:=λL' R'=> ∃y0 y1 y2 y3 y4 y5,J y0 y1 y2 y3 y4 y5/\μ y0 y1 y2 y3 y4 y5<μ x0 x1 x2 x3 x4 x5/\Sub (Lx y0 y1 y2 y3 y4 y5) L'/\ ∀w,Hp B w0 w R'->Hp B w0 w (Rx y0 y1 y2 y3 y4 y5)} (Lx x0 x1 x2 x3 x4 x5) (Rx x0 x1 x2 x3 x4 x5)):W P n B w0 (.loop c) Q L R:=by
 obtain⟨x0,x1,x2,x3,x4,x5,h1,h2,h3⟩:=h0;refine qN (σ:=σ0 × σ1 × σ2 × σ3 × σ4 × σ5) (λp=>Lx p.1 p.2.1 p.2.2.1 p.2.2.2.1 p.2.2.2.2.1 p.2.2.2.2.2) (λp=>Rx p.1 p.2.1 p.2.2.1 p.2.2.2.1 p.2.2.2.2.1 p.2.2.2.2.2) (λp=>J p.1 p.2.1 p.2.2.1 p.2.2.2.1 p.2.2.2.2.1 p.2.2.2.2.2) (λp=>μ p.1 p.2.1 p.2.2.1 p.2.2.2.1 p.2.2.2.2.1 p.2.2.2.2.2) ⟨(x0,x1,x2,x3,x4,x5),h1,h2,h3⟩ λp hp=>jA (round p.1 p.2.1 p.2.2.1 p.2.2.2.1 p.2.2.2.2.1 p.2.2.2.2.2 hp) ?_ (λ_ _ h=>h) (λ_ _ _ h=>h);rintro L' R' ⟨y0,y1,y2,y3,y4,y5,g1,g2,g3,g4⟩;exact⟨(y0,y1,y2,y3,y4,y5),⟨g1,g2⟩,g3,g4⟩
theorem CU {σ0 σ1 σ2 σ3 σ4 σ5 σ6:Type} {c:Code} {Q:gF} {L:Env} {R:List Row} (Lx:σ0->σ1->σ2->σ3->σ4->σ5->σ6->Env) (Rx:σ0->σ1->σ2->σ3->σ4->σ5->σ6->List Row) (J:σ0->σ1->σ2->σ3->σ4->σ5->σ6->Prop) (μ:σ0->σ1->σ2->σ3->σ4->σ5->σ6->Nat)
  (h0: ∃x0 x1 x2 x3 x4 x5 x6,J x0 x1 x2 x3 x4 x5 x6/\Sub (Lx x0 x1 x2 x3 x4 x5 x6) L/\ ∀w,Hp B w0 w R->Hp B w0 w (Rx x0 x1 x2 x3 x4 x5 x6))
  (round: ∀x0 x1 x2 x3 x4 x5 x6,J x0 x1 x2 x3 x4 x5 x6->W P n B w0 c {Q with nrm:=λL' R'=> ∃y0 y1 y2 y3 y4 y5 y6,J y0 y1 y2 y3 y4 y5 y6/\μ y0 y1 y2 y3 y4 y5 y6<μ x0 x1 x2 x3 x4 x5 x6/\Sub (Lx y0 y1 y2 y3 y4 y5 y6) L'/\ ∀w,Hp B w0 w R'->Hp B w0 w (Rx y0 y1 y2 y3 y4 y5 y6)} (Lx x0 x1 x2 x3 x4 x5 x6) (Rx x0 x1 x2 x3 x4 x5 x6)):W P n B w0 (.loop c) Q L R:=by
 obtain⟨x0,x1,x2,x3,x4,x5,x6,h1,h2,h3⟩:=h0;refine qN (σ:=σ0 × σ1 × σ2 × σ3 × σ4 × σ5 × σ6) (λp=>Lx p.1 p.2.1 p.2.2.1 p.2.2.2.1 p.2.2.2.2.1 p.2.2.2.2.2.1 p.2.2.2.2.2.2) (λp=>Rx p.1 p.2.1 p.2.2.1 p.2.2.2.1 p.2.2.2.2.1 p.2.2.2.2.2.1 p.2.2.2.2.2.2) (λp=>J p.1 p.2.1 p.2.2.1 p.2.2.2.1 p.2.2.2.2.1 p.2.2.2.2.2.1 p.2.2.2.2.2.2) (λp=>μ p.1 p.2.1 p.2.2.1 p.2.2.2.1 p.2.2.2.2.1 p.2.2.2.2.2.1 p.2.2.2.2.2.2) ⟨(x0,x1,x2,x3,x4,x5,x6),h1,h2,h3⟩ λp hp=>jA (round p.1 p.2.1 p.2.2.1 p.2.2.2.1 p.2.2.2.2.1 p.2.2.2.2.2.1 p.2.2.2.2.2.2 hp) ?_ (λ_ _ h=>h) (λ_ _ _ h=>h);rintro L' R' ⟨y0,y1,y2,y3,y4,y5,y6,g1,g2,g3,g4⟩;exact⟨(y0,y1,y2,y3,y4,y5,y6),⟨g1,g2⟩,g3,g4⟩
theorem mO {x y:Code} {Q:gF} {L:Env} {R:List Row} (L1:Env) (R1:List Row)
  (hx:W P n B w0 x {Q with nrm:=λL' R'=>Sub L1 L'/\ ∀w,Hp B w0 w R'->Hp B w0 w R1} L R) (hy:W P n B w0 y Q L1 R1):W P n B w0 (.seq x y) Q L R:=
 aD (jA hx (λ_ _ ⟨hL,hR⟩=>aTb hL hR hy) (λ_ _ h=>h) (λ_ _ _ h=>h))
theorem bO {Q:gF} {L:Env} {R R1:List Row} (hR: ∀w,Hp B w0 w R->Hp B w0 w R1) (h:Q.ret L R1):W P n B w0 .ret Q L R:=aTb (Sub.refl L) hR (bK h)
def pickT (is:List Nat) (m:Nat) (R:List Row):List Row:=is.filterMap (λi=>R[i]?)++R.drop m
theorem Hp.pickT {B:Nat} {w0 w:World} {R:List Row} (h:Hp B w0 w R) (is:List Nat) (m:Nat) (hn:is.Nodup) (hR:is.map (λi=>(R.take m)[i]?)=(is.filterMap (λi=>R[i]?)).map some):Hp B w0 w (pickT is m R):=by
 rw[<-gz m R] at h;have hp:=ku.1 h.apart;have hF:Hp B w0 w (R.take m):=⟨h.below,h.base,λr hr=>h.own r (ek.2 (.inl hr)),hp.1,h.late⟩;have Ys:=hF.sel is hn hR
 have mem: ∀q∈is.filterMap (λi=>R[i]?),q∈R.take m:=by
  intro q hq;have h1:some q∈(is.filterMap (λi=>R[i]?)).map some:=ii.2 ⟨q,hq,rfl⟩;rw[<-hR] at h1;obtain⟨i,_,hi⟩:=ii.1 h1;exact gq hi
 refine⟨h.below,h.base,λr hr=> ?_,ku.2 ⟨Ys.apart,hp.2.1,λa ha b hb=>hp.2.2 a (mem a ha) b hb⟩,h.late⟩;rcases ek.1 hr with hr|hr
 ·exact Ys.own r hr
 ·exact h.own r (ek.2 (.inr hr))
theorem Ct.pick {P:Program} {B:Nat} {w0:World} {f:FuncId} {args:Array Value} {R:List Row} {Post:Value->List Row->Prop} (is:List Nat) (m:Nat) (hn:is.Nodup) (hR:is.map (λi=>(R.take m)[i]?)=(is.filterMap (λi=>R[i]?)).map some) (h:Ct P f args B w0 (pickT is m R) Post):Ct P f args B w0 R Post:=
 Ct.sub (λ_ hw=>hw.pickT is m hn hR) h
theorem Ct.quiet {f:FuncId} {args:Array Value} {R:List Row} {Q:Value->Prop} (h: ∀w,Hp B w0 w R->Ct P f args w.heap.size w [] (λv _=>Q v)):Ct P f args B w0 R (λv R'=>R'=R/\Q v):=
 λw hw=>(h w hw w (Hp.refl w)).mono λ_ _ ⟨v,_,he,hh,hv⟩=>⟨v,R,he,(hw.join hh).right,rfl,hv⟩
theorem Sub.to {L1 L:Env} {t:Nat} {v u:Value} (h:lk L t=some v) (e:v=u) (hs:Sub L1 L):Sub ((t,u)::L1) L:=e▸Sub.cons h hs
variable {L:Env} {R:List Row} {ty:TypeId}
def aO (l:AH):Prop:= ∀x∈l,0<=x/\x<256
theorem aO.rd {l:AH} (h:aO l) (i:Int):0<=rd l i/\rd l i<256:=by
 unfold Eng.rd;rcases gp i.toNat l.length with h1|h1
 ·rw [ai,av h1];exact h _ (lu h1)
 ·rw [ai,ng h1];simp
theorem aO.take {l:AH} (h:aO l) (k:Nat):aO (l.take k):=λx hx=>h x (ll hx)
theorem aO.drop {l:AH} (h:aO l) (k:Nat):aO (l.drop k):=λx hx=>h x (nu hx)
theorem aO.append {l m:AH} (h:aO l) (h':aO m):aO (l++m):=λx hx=>(ek.1 hx).elim (h x) (h' x)
theorem aO.nil:aO []:=λ_ h=>by cases h
theorem DK {l m:AH} (hl:aO l) (hm:aO m):((strOfNums l).toList==(strOfNums m).toList)=decide (l=m):=by
 have key: ∀l:AH,aO l->((strOfNums l).toList.map λb=>(b.toNat:Int))=l:=by
  intro l hl
  have e:(strOfNums l).toList=l.map λx=>UInt8.ofNat x.toNat:=by
   rw[ByteArray.toList_eq];rfl
  rw[e,ql]
  conv=>rhs;rw[<-Ko l]
  refine uu λx hx=> ?_;obtain⟨h0,h1⟩:=hl x hx;simp only[Function.comp,id];rw[Cw (by simp[UInt8.size];omega)];omega
 by_cases h:l=m
 ·subst h;simp
 ·have:(strOfNums l).toList≠(strOfNums m).toList:=λe=>h (by rw[<-key l hl,<-key m hm,e]);simp[h,this]
theorem iB {x:Operand} {s e d:TypeId} {A:AF} {m c:Nat} {l:AH} (en:P.underlying s=some (.slice e)) (he:P.underlying e=some (.int .u8)) (hd:P.underlying d=some .string) (hx:ev L x=some (.slice A m c)) (hr:RdC B w0 R A m c 1 (ints .u8 l)):
  Yl P n B w0 (.convert s d x) ty L R (.string (strOfNums l)):=by
 intro a w o ho _ hs hp;have gg:=hr w hp;have hl:=gg.len;rw[bY,qp] at hl
 have hc:(convert s d (.slice A m c)).run P w= .ok (.string (strOfNums l)) w:=by
  rcases A with _|ad
  ·have h0:l=[]:=by
    cases l with
    |nil=>rfl
    |cons y l'=>obtain⟨_,h,_⟩:=gg.at_ 0 (.int .u8 y) (by simp[ints]);cases h
   subst h0;exact run_convert_bytes_nil w s e en he m c d hd
  ·have hlc:(loadCells ad m).run P w= .ok (l.map (Value.int .u8)).toArray w:=by
    have:=run_loadCells_list (P:=P) w ad (l.map (Value.int .u8)) (λj v hj=>by
     obtain⟨a',oe,ya⟩:=gg.at_ j v hj;obtain rfl:=jg oe
     exact ya)
    simpa [hl] using this
   rw[run_convert_bytes_string w s d e _ m c en he hd,run_bytesToString w _ m c l hlc,foldl_push_bytes];simp[strOfNums,ByteArray.empty,ByteArray.emptyWithCapacity];rfl
 simp[execOp,ho,hs.ev hx,hc]
theorem bMh {x y:Operand} {t u:TypeId} {p q:ByteArray} (hx:ev L x=some (.string p)) (hy:ev L y=some (.string q)):Yl P n B w0 (.binOp .eql t x y u) ty L R (.bool (p.toList==q.toList)):=by
 intro a w o ho _ hs _;simp[execOp,ho,binOp,eqGuard,hs.ev hx,hs.ev hy,Op.stringOp]
theorem ZC {x y:Operand} {t u:TypeId} {p q:AH} (hx:ev L x=some (.string (strOfNums p))) (hy:ev L y=some (.string (strOfNums q))) (hp:aO p) (hq:aO q):Yl P n B w0 (.binOp .eql t x y u) ty L R (.bool (decide (p=q))):=by
 have:=bMh (P:=P) (n:=n) (B:=B) (w0:=w0) (R:=R) (ty:=ty) (t:=t) (u:=u) hx hy;rwa[DK hp hq] at this
theorem SY {x y:Operand} {t u:TypeId} {p q:AH} (hx:ev L x=some (.string (strOfNums p))) (hy:ev L y=some (.string (strOfNums q))) (hp:aO p) (hq:aO q):Yl P n B w0 (.binOp .neq t x y u) ty L R (.bool (decide (p≠q))):=by
 intro a w o ho _ hs _;have h:=DK hp hq;have h2:(!decide (p=q))=decide (p≠q):=cD
 simp only[execOp,ho,binOp,eqGuard,hs.ev hx,hs.ev hy,Op.stringOp,h,h2];simp
theorem RL {x:Operand} {t e:TypeId} {r:Row} {g:Nat} (i:Nat) (hi:R[i]? =some r) (ns:r.ro=false) (ht:P.underlying t=some (.slice e)) (he:P.underlying e=some (.int .u8)) (hA:r.A=some ⟨g,0,none⟩) (hx:ev L x=some (.slice r.A r.n r.c)):
  Ac P n B w0 (.convert t t x) ty L R (λv R'=>v= .slice r.A r.n r.c/\R'=R.set i {r with ro:=true}):=by
 intro a w o K Q ho _ hs hp hk;have hw:=Row.lies_w (hp.own r (gq hi)) ns;rcases hw.2 with⟨hn,_⟩|⟨g',cap,cur,en,hb,hg,hnc,sp,jp,t8⟩
 ·rw[hA] at hn;cases hn
 ·rw [hA] at en;simp only[ko,mr,Am,Aj,zw] at en;obtain⟨rfl,rfl⟩:=en
  have hg':(w.freeze ⟨g,cur.size,none⟩ 1).heap[g]? =some (.cells cur r.e (cur.size,cur.size+1)):=by
   have br:g<w.heap.size:=(gu.1 hg).1;have hv:w.heap[g]= .cells cur r.e (0,0):=(gu.1 hg).2;simp[World.freeze,br,Array.getElem_modify,hv]
  have hoth: ∀k,k≠g->(w.freeze ⟨g,cur.size,none⟩ 1).heap[k]? =w.heap[k]? :=by
   intro k hk;simp[World.freeze,ww,Ir hk]
  have hr:(convert t t (.slice r.A r.n r.c)).run P w= .ok (.slice r.A r.n r.c) (w.freeze ⟨g,cur.size,none⟩ 1):=by
   rw[hA];simp only[convert,jw,ou ht,kg,ou he,beq_self_eq_true];simp[markStringish,shape,Sem.run,World.shape?,hg,freeze]
  unfold Oper.wp;simp only[execOp,ho,hs.ev hx,jw,hr,kg,pu,Oper.upon];refine hk _ _ _ ?_ ⟨rfl,rfl⟩;refine hp.upd hi (row:=some g) ⟨by simp[World.freeze],by simp[World.freeze],by simp[World.freeze],by simp[World.freeze],λk _ cg=>hoth k (λe=>cg (by rw[e]))⟩ (by simp[World.freeze]) (λk hk=>⟨_,hA,by simpa using hk⟩) ?_ (λa' oe=> .inl ⟨a',oe,rfl⟩);unfold Row.lies;exact⟨g,cur,_,hA,hb,hg',qm hnc sp,hnc,hw.1,t8⟩
end
end Go.Eng
namespace Go.Eng
open Go Go.RowKit
def upd (l:AH) (i v:Int):AH:=l.set i.toNat v
theorem tT (k:IntKind) (l m:AH):ints k (l++m)=ints k l++ints k m:=by simp[ints]
theorem aXz (k:IntKind) (l:AH) (i v:Int):(ints k l).set i.toNat (.int k v)=ints k (upd l i v):=by simp[ints,upd,List.map_set]
theorem aY (l:AH) (i v:Int):(upd l i v).length=l.length:=by simp[upd]
theorem gV {l:AH} {i j v:Int} (hi:0<=i) (hj:0<=j) (h:i<l.length):rd (upd l i v) j=if j=i then v else rd l j:=by
 unfold rd upd;rw[ai,ai,xz];by_cases e:j=i
 ·subst e;have:j.toNat<l.length:=G
  simp[this]
 ·have: ¬i.toNat=j.toNat:=G
  simp[e,this]
theorem OH {l m:AH} {i:Int} (h0:0<=i) (h:i<l.length):rd (l++m) i=rd l i:=by
 unfold rd;rw[ai,ai,ji G]
theorem SH {l:AH} {x i:Int} (h:i=l.length):rd (l++[x]) i=x:=by
 subst h;simp[rd]
theorem EZ (k:IntKind) (l:AH): ∀u∈ints k l,u.oneCell'=true:=by
 intro u hu;obtain⟨x,_,rfl⟩:=ii.1 hu;rfl
section
variable {P:Program} {n:Nd} {B:Nat} {w0:World} {L:Env} {R:List Row} {ty:TypeId}
theorem xN (k:IntKind):RdC B w0 R none 0 0 1 (ints k []):=λ_ _=>⟨rfl,G,G,λj v hv=>by simp[ints] at hv⟩
theorem aKi (sz:Nat):RdC B w0 R none 0 0 sz []:=λ_ _=>⟨cD,G,G,λj v hv=>by simp at hv⟩
theorem bE {x y:Operand} {t e:TypeId} {j v:Int} {A:AF} {m c:Nat} {k:IntKind} {l:AH} (i:Nat) (hi:R[i]? =some ⟨e,1,A,m,c,ints k l,false⟩) (gd:(P.info? t).map (·.size)=some 1) (hx:ev L x=some (.pointer (pat A j.toNat))) (hy:ev L y=some (.int k v)) (h0:0<=j:=by omega) (h1:j<m:=by omega):
  Ac P n B w0 (.store t x y) ty L R (λ_ R'=>R'=R.set i ⟨e,1,A,m,c,ints k (upd l j v),false⟩):=by
 intro a w o K Q ho Mw hs hp hk;have fk:=Row.lies_w (hp.own _ (gq hi)) rfl;have gg:=Row.rd (hp.own _ (gq hi));have hl:=gg.len
 obtain⟨g,hA⟩: ∃g,A=some ⟨g,0,none⟩:=by
  rcases fk.2 with⟨_,hn⟩|⟨g,cap,cur,hv,_⟩
  ·simp only at hn;omega
  ·simp only[ko] at hv;exact⟨g,hv.1⟩
 have:=YR (P:=P) (n:=n) (B:=B) (w0:=w0) (ty:=ty) i hi rfl hA gd hx rfl hy rfl rfl (by rw[hl];simp only;omega);simp only[aXz] at this;exact this a w o K Q ho Mw hs hp hk
theorem aQ {s x:Operand} {t e:TypeId} {bytes m p c c2:Nat} {A A2:AF} {k:IntKind} {l news:AH} (i:Nat) (hi:R[i]? =some ⟨e,1,A,p,c,ints k l,false⟩) (ht:P.underlying t=some (.slice e)) (ee:(P.info? e).map (λi=>(i.zero,i.size,i.bytes))=some (some (.int k 0),1,bytes)) (a8:Nat.blt 0 bytes=true)
  (hs:ev L s=some (.slice A p c)) (hx:ev L x=some (.slice A2 m c2)) (gg:RdC B w0 R A2 m c2 1 (ints k news)) (kj:(p+m)*bytes<=140737488355328:=by omega):
  Ac P n B w0 (.call {callee:= .builtin .append,args:= #[s,x],argTypes:= #[t,t]}) ty L R (λv R'=> ∃A' c',v= .slice A' (p+m) c'/\R'=R.set i ⟨e,1,A',p+m,c',ints k (l++news),false⟩):=by
 have:=fK (P:=P) (n:=n) (B:=B) (w0:=w0) (ty:=ty) i hi rfl ht ee rfl rfl a8 hs hx gg (EZ k news) kj;simp only[<-tT] at this;exact this
theorem aVc (k:IntKind) (m:Nat) (x:Int):List.replicate m (Value.int k x)=ints k (List.replicate m x):=by simp[ints]
theorem dK {x y:Operand} {t e:TypeId} {k:IntKind} {bytes:Nat} {m:Int} (ht:P.underlying t=some (.slice e)) (ee:(P.info? e).map (λi=>(i.zero,i.size,i.bytes))=some (some (.int k 0),1,bytes))
  (hx:ev L x=some (.int .i64 m)) (hy:ev L y=some (.int .i64 m)) (h0:0<=m:=by omega) (hm:m*bytes<=281474976710656:=by omega) (No:m<=9223372036854775807:=by omega):
  Ac P n B w0 (.makeSlice t x y) ty L R (λv R'=> ∃g,v= .slice (some ⟨g,0,none⟩) m.toNat m.toNat/\R'=⟨e,1,some ⟨g,0,none⟩,m.toNat,m.toNat,ints k (List.replicate m.toNat 0),false⟩::R):=by
 have:=aMq (P:=P) (n:=n) (B:=B) (w0:=w0) (L:=L) (R:=R) (ty:=ty) ht ee rfl hx hy h0 hm No;simpa only[aVc] using this
theorem Yl.t {op:Op} {p:Prop} [Decidable p] (hy:Yl P n B w0 op ty L R (.bool (decide p))) (h:p):Yl P n B w0 op ty L R (.bool true):=by rwa[ky h] at hy
theorem Yl.f {op:Op} {p:Prop} [Decidable p] (hy:Yl P n B w0 op ty L R (.bool (decide p))) (h: ¬p:=by omega):Yl P n B w0 op ty L R (.bool false):=by rwa[nk h] at hy
theorem Yl.is {op:Op} {v u:Value} (hy:Yl P n B w0 op ty L R v) (h:v=u):Yl P n B w0 op ty L R u:=h▸hy
theorem gL {ops:Array Oper} {l:List Oper} {K:Env->List Row->Prop} (d:Nat) {p:Prop} [Decidable p] (h:lk L d=some (.bool (decide p))) (hp:p) (hn:WR P n B w0 ops l K ((d, .bool true)::L) R):WR P n B w0 ops l K L R:=
 iU (rJ (by rw[h,ky hp])) (λ_ h=>h) hn
theorem qV {ops:Array Oper} {l:List Oper} {K:Env->List Row->Prop} (d:Nat) {p:Prop} [Decidable p] (h:lk L d=some (.bool (decide p))) (hp: ¬p) (hn:WR P n B w0 ops l K ((d, .bool false)::L) R):WR P n B w0 ops l K L R:=
 iU (rJ (by rw[h,nk hp])) (λ_ h=>h) hn
theorem mH {ops:Array Oper} {l2:List Oper} {Q:Exit->Act->World->Prop}: ∀(l1:List Oper) (a:Act) (w:World),wpList P ops (λe a w=>match e with| .normal=>wpList P ops Q l2 a w|e=>Q e a w) l1 a w->wpList P ops Q (l1++l2) a w
 |[],a,w,h=>h
 | o ::l1,a,w,h=>by
  simp only[iy];unfold wpList at h ⊢;split
  ·rename_i hw;rw[dm hw] at h;rcases h with h|⟨h1,h2⟩
   ·left;unfold Oper.wp at h ⊢;generalize (execOp a.eval o).run P w=r at*;cases r with
    | ok n w'=>
     cases n<;>simp only[Oper.upon] at h ⊢ <;>first
      |exact mH l1 _ _ h
      |exact Calls.mono h (λe Su he=>by cases e<;>first|exact mH l1 _ _ he|exact he)
      |exact Rows.mono h (λ_ _ he=>mH l1 _ _ he)
    |halt x w'=>cases x<;>simp only[Oper.upon] at h ⊢ <;>exact h
   ·exact .inr ⟨h1,h2⟩
  ·rename_i hw;rw[df hw] at h;exact mH l1 _ _ h
theorem bR {ops:Array Oper} {l:List Oper} {K:Env->List Row->Prop} (k:Nat) (L1:Env) (R1:List Row) (h1:WR P n B w0 ops (l.take k) (λL' R'=>Sub L1 L'/\ ∀w,Hp B w0 w R'->Hp B w0 w R1) L R) (h2:WR P n B w0 ops (l.drop k) K L1 R1):WR P n B w0 ops l K L R:=by
 intro a w Q hs hp hq;rw[<-gz k l];refine mH _ a w (h1 a w _ hs hp λa' w' L' R' en cr ⟨hL,hR⟩=> ?_);exact h2 a' w' Q (en.sub hL) (hR w' cr) hq
theorem bRf {p:Prop} [Decidable p] (h:p):Value.bool true=Value.bool (decide p):=by rw[ky h]
theorem bRg {p:Prop} [Decidable p] (h: ¬p):Value.bool false=Value.bool (decide p):=by rw[nk h]
theorem mb {p q:Prop} [Decidable p] [Decidable q] (h:p↔q):Value.bool (decide p)=Value.bool (decide q):=by rw[ug.2 h]
def enu:Nat->AG->List (Nat × Value)
 |_,[]=>[]
 |k,v::vs=>(k,v)::enu (k+1) vs
theorem cells_one {v:Value} (h:v.oneCell'=true):v.cells= #[v]:=by cases v<;>first|rfl|(simp[Value.oneCell'] at h)
theorem aCi: ∀(vs pre post:AG),vs.all (·.oneCell')=true->vs.length=post.length->Instr.fill (λi=>some (i*1,1)) (pre++post).toArray (enu pre.length vs)=some (pre++vs).toArray
 |[],pre,post,_,hl=>by
  have:post=[]:=dw (by simpa using hl.symm);subst this;simp[enu,Instr.fill]
 | v::vs,pre,post,h1,hl=>by
  cases post with
  |nil=>simp at hl
  | cons q post=>
   simp only[Fg,qh] at h1;have hc:=cells_one h1.1;have ih:=aCi vs (pre++[v]) post h1.2 (by simpa using hl);simp only[ah,ic] at ih;simp only[enu,Instr.fill,qp];rw[hc];have hn: ¬((#[v]:Array Value).size≠1\/pre.length+(#[v]:Array Value).size>(pre++q::post).toArray.size):=cD
   simp only[hn,Bh,yh,yj]
   have e:((#[v]:Array Value).zipIdx.foldl (λcs x=>cs.setIfInBounds (pre.length+x.2) x.1) (pre++q::post).toArray)=(pre++[v]++post).toArray:=by
    simp
   simp only[qp,dx,iy,iv] at ih;simp only[e,dx,iy,iv];exact ih
theorem iK {t e:TypeId} {z:Value} {len:Nat} {ps:List (Nat × Operand)} (vals:AG) (ht:P.underlying t=some (.slice e)) (ee:(P.info? e).map (λi=>(i.zero,i.size))=some (some z,1)) (hv:evp L ps=some (enu 0 vals))
  (h1:vals.all (·.oneCell')=true) (hl:vals.length=len) (sq:Nat.ble len 16777216=true):
  Ac P n B w0 (.buildSlice t len ps.toArray) ty L R (λv R'=> ∃g,v= .slice (some ⟨g,0,none⟩) len len/\R'=⟨e,1,some ⟨g,0,none⟩,len,len,vals,false⟩::R):=by
 have hf:=aCi vals [] (((Array.range (len*1)).map ((bif Nat.beq (len*1) 0 then #[] else z.cells)[· %(bif Nat.beq (len*1) 0 then #[] else z.cells).size]!)).toList) h1 (by simp[hl]);simp only[il,iv,Array.toArray_toList] at hf;have:=rD (P:=P) (n:=n) (B:=B) (w0:=w0) (L:=L) (R:=R) (ty:=ty) (len:=len) ht ee hv (by rw[qp];exact sq) sq hf (by simp[hl]);simpa using this
theorem bF {t e:TypeId} {z:Value} {len:Nat} {ps:List (Nat × Operand)} (k:IntKind) (l:AH) (ht:P.underlying t=some (.slice e)) (ee:(P.info? e).map (λi=>(i.zero,i.size))=some (some z,1)) (hv:evp L ps=some (enu 0 (ints k l)))
  (hl:l.length=len) (sq:Nat.ble len 16777216=true):
  Ac P n B w0 (.buildSlice t len ps.toArray) ty L R (λv R'=> ∃g,v= .slice (some ⟨g,0,none⟩) len len/\R'=⟨e,1,some ⟨g,0,none⟩,len,len,ints k l,false⟩::R):=
 iK (ints k l) ht ee hv (by rw[vw];exact EZ k l) (by rw[bY,hl]) sq
theorem Rd.lenI {w:World} {A:AF} {m c:Nat} {k:IntKind} {l:AH} (h:Rd w A m c 1 (ints k l)):m=l.length:=by
 have:=h.len;rw[bY] at this;omega
end
end Go.Eng
namespace Go.Eng
open Go
section
def jY (R:List Row) (m:Nat) (R1:List Row):Prop:=R.drop m=R1
theorem jY.n {R:List Row} {m:Nat} (h:R=[]):jY R m []:=by rw[h];exact List.drop_nil
theorem jY.z {R:List Row}:jY R 0 R:=rfl
theorem jY.s {R R' R1:List Row} {q:Row} {m:Nat} (h:R=q::R') (g:jY R' m R1):jY R (m+1) R1:=by rw[h];exact g
def qL (R:List Row) (is:List Nat) (m:Nat) (R1:List Row):Prop:= ∃F,R1=F++R.drop m/\F.map some=is.map (λi=>R[i]?)
theorem qL.n {R R1:List Row} {m:Nat} (h:jY R m R1):qL R [] m R1:=⟨[],by rw[<-show R.drop m=R1 from h];rfl,rfl⟩
theorem qL.c {R R1:List Row} {r:Row} {i m:Nat} {is:List Nat} (g:R[i]? =some r) (h:qL R is m R1):qL R (i::is) m (r::R1):=by
 obtain⟨F,e,hF⟩:=h;exact⟨r::F,by rw[e];rfl,by rw[jm,jm,hF,g]⟩
def okS (is:List Nat) (m:Nat):Bool:=decide is.Nodup && is.all (λi=>decide (i<m))
theorem Hp.selC {B:Nat} {w0 w:World} {R R1:List Row} {is:List Nat} {m:Nat} (h:Hp B w0 w R) (s:qL R is m R1) (ho:okS is m=true):Hp B w0 w R1:=by
 simp only[okS,qh,yh,vw] at ho;obtain⟨F,rfl,hF⟩:=s
 have h3: ∀(is:List Nat) (F:List Row),F.map some=is.map (λi=>R[i]?)->is.filterMap (λi=>R[i]?)=F:=by
  intro is
  induction is with
  |nil=>intro F hF;cases F with
   |nil=>rfl
   |cons a F=>simp at hF
  | cons i is ih=>intro F hF;cases F with
   |nil=>simp at hF
   |cons a F=>
    simp only[jm,Da] at hF;rw[List.filterMap_cons,<-hF.1,ih F hF.2]
 have h3:=h3 is F hF
 have e:is.map (λi=>(R.take m)[i]?)=(is.filterMap (λi=>R[i]?)).map some:=by
  rw[h3,hF];exact uu λi hi=>qo (ho.2 i hi)
 have h2:=h.pickT is m ho.1 e;rw[Eng.pickT,h3] at h2;exact h2
variable {P:Program} {n:Nd} {B:Nat} {w0:World}
theorem Ct.pk {f:FuncId} {args:Array Value} {R R1:List Row} {Post:Value->List Row->Prop} (is:List Nat) (m:Nat) (s:qL R is m R1:=by repeat' first|apply qL.c rfl|exact qL.n (jY.n rfl)|exact qL.n jY.z|apply qL.n|exact jY.n rfl|exact jY.z|apply jY.s rfl) (h:Ct P f args B w0 R1 Post) (ho:okS is m=true:=by decide):Ct P f args B w0 R Post:=
 Ct.sub (λ_ hw=>hw.selC s ho) h
theorem aU {Q:gF} {L:Env} {R R1:List Row} (is:List Nat) (m:Nat) (h:Q.ret L R1) (s:qL R is m R1:=by repeat' first|apply qL.c rfl|exact qL.n (jY.n rfl)|exact qL.n jY.z|apply qL.n|exact jY.n rfl|exact jY.z|apply jY.s rfl) (ho:okS is m=true:=by decide):W P n B w0 .ret Q L R:=bO (λ_ hw=>hw.selC s ho) h
theorem JL {ops:Array Oper} {l:List Oper} {K:Env->List Row->Prop} {L:Env} {R R1:List Row} (is:List Nat) (m:Nat) (h:WR P n B w0 ops l K L R1) (s:qL R is m R1:=by repeat' first|apply qL.c rfl|exact qL.n (jY.n rfl)|exact qL.n jY.z|apply qL.n|exact jY.n rfl|exact jY.z|apply jY.s rfl) (ho:okS is m=true:=by decide):WR P n B w0 ops l K L R:=
 iU (Sub.refl _) (λ_ hw=>hw.selC s ho) h
theorem bMk {c:Code} {Q:gF} {L:Env} {R R1:List Row} (is:List Nat) (m:Nat) (h:W P n B w0 c Q L R1) (s:qL R is m R1:=by repeat' first|apply qL.c rfl|exact qL.n (jY.n rfl)|exact qL.n jY.z|apply qL.n|exact jY.n rfl|exact jY.z|apply jY.s rfl) (ho:okS is m=true:=by decide):W P n B w0 c Q L R:=
 aTb (Sub.refl _) (λ_ hw=>hw.selC s ho) h
theorem eZ {ops:Array Oper} {l:List Oper} {K:Env->List Row->Prop} {L:Env} {R:List Row} (r:Row) (h:WR P n B w0 ops l K L (r::R)) (hr:r=⟨r.e,r.sz,none,0,0,[],false⟩:=by exact rfl):WR P n B w0 ops l K L R:=
 iU (Sub.refl _) (λ_ hw=>hr▸hw.nil r.e r.sz) h
end
end Go.Eng
namespace Go.Eng
open Go Go.RowKit
section
variable {P:Program} {n:Nd} {B:Nat} {w0:World} {ops:Array Oper} {l:List Oper} {K:Env->List Row->Prop} {L:Env} {R:List Row} {op:Op} {ty:TypeId} {pos:String} {ph:Array Edge} {d:Nat}
theorem wy {v:Value} (hy:Yl P n B w0 op ty L R v) (h:WR P n B w0 ops l K ((d,v)::L) R) (hn:Nat.blt d n=true:=by exact rfl):WR P n B w0 ops ({dst:=some d,op:=op,type:=ty,pos:=pos,after:=ph,guard:=none}::l) K L R:=WF hn hy h
theorem wa {Post:Value->List Row->Prop} (ha:Ac P n B w0 op ty L R Post) (h: ∀v R',Post v R'->WR P n B w0 ops l K ((d,v)::L) R') (hn:Nat.blt d n=true:=by exact rfl):WR P n B w0 ops ({dst:=some d,op:=op,type:=ty,pos:=pos,after:=ph,guard:=none}::l) K L R:=bQz hn ha h
theorem wm {x:Operand} {v:Value} (hx:ev L x=some v) (h:WR P n B w0 ops l K ((d,v)::L) R) (hn:Nat.blt d n=true:=by exact rfl):WR P n B w0 ops ({dst:=some d,op:= .move x,type:=ty,pos:=pos,after:=ph,guard:=none}::l) K L R:=WF hn (aJ hx) h
theorem wg {x:Operand} {v:Value} (hx:ev L x=some v) (h:WR P n B w0 ops l K ((d,v)::L) R) (hn:Nat.blt d n=true:=by exact rfl):WR P n B w0 ops ({dst:=some d,op:= .assign x,type:=ty,pos:=pos,after:=ph,guard:=none}::l) K L R:=WF hn (aW hx) h
theorem wA {x y:Operand} {t u:TypeId} {p q:Int} (hx:ev L x=some (.int .i64 p)) (hy:ev L y=some (.int .i64 q)) (h:WR P n B w0 ops l K ((d, .int .i64 (p+q))::L) R) (hn:Nat.blt d n=true:=by exact rfl) (hb: -9223372036854775808<=p+q/\p+q<=9223372036854775807:=by omega):WR P n B w0 ops ({dst:=some d,op:= .binOp .add t x y u,type:=ty,pos:=pos,after:=ph,guard:=none}::l) K L R:=WF hn (bT hx hy hb) h
theorem wS {x y:Operand} {t u:TypeId} {p q:Int} (hx:ev L x=some (.int .i64 p)) (hy:ev L y=some (.int .i64 q)) (h:WR P n B w0 ops l K ((d, .int .i64 (p-q))::L) R) (hn:Nat.blt d n=true:=by exact rfl) (hb: -9223372036854775808<=p-q/\p-q<=9223372036854775807:=by omega):WR P n B w0 ops ({dst:=some d,op:= .binOp .sub t x y u,type:=ty,pos:=pos,after:=ph,guard:=none}::l) K L R:=WF hn (kY hx hy hb) h
theorem wL {x y:Operand} {t u:TypeId} {k:IntKind} {p q:Int} (hx:ev L x=some (.int k p)) (hy:ev L y=some (.int k q)) (h:WR P n B w0 ops l K ((d, .bool (decide (p<q)))::L) R) (hn:Nat.blt d n=true:=by exact rfl):WR P n B w0 ops ({dst:=some d,op:= .binOp .lss t x y u,type:=ty,pos:=pos,after:=ph,guard:=none}::l) K L R:=WF hn (eQ hx hy) h
theorem wQ {x y:Operand} {t u:TypeId} {k:IntKind} {p q:Int} (hx:ev L x=some (.int k p)) (hy:ev L y=some (.int k q)) (h:WR P n B w0 ops l K ((d, .bool false)::L) R) (hn:Nat.blt d n=true:=by exact rfl) (hb: ¬p=q:=by decide):WR P n B w0 ops ({dst:=some d,op:= .binOp .eql t x y u,type:=ty,pos:=pos,after:=ph,guard:=none}::l) K L R:=WF hn (Yl.f (eT hx hy) hb) h
theorem wR {x y:Operand} {t u:TypeId} {k:IntKind} {p q:Int} (hx:ev L x=some (.int k p)) (hy:ev L y=some (.int k q)) (h:WR P n B w0 ops l K ((d, .bool true)::L) R) (hn:Nat.blt d n=true:=by exact rfl) (hb:p=q:=by decide):WR P n B w0 ops ({dst:=some d,op:= .binOp .eql t x y u,type:=ty,pos:=pos,after:=ph,guard:=none}::l) K L R:=WF hn (Yl.t (eT hx hy) hb) h
theorem wX {i:Nat} {x:Operand} {vs:Array Value} {v:Value} (hx:ev L x=some (.tuple vs)) (hv:vs[i]? =some v) (h:WR P n B w0 ops l K ((d,v)::L) R) (hn:Nat.blt d n=true:=by exact rfl):WR P n B w0 ops ({dst:=some d,op:= .extract x i,type:=ty,pos:=pos,after:=ph,guard:=none}::l) K L R:=WF hn (GR hx hv) h
theorem wD {v:Value} {bo:Nat} {ab:AI} (i:Nat) (hi:ops[i]? =some {dst:=some d,op:=op,type:=ty,pos:=pos,after:=ph,guard:=none}) (hy:Yl P n B w0 op ty L R v) (h:WD P n B w0 ops K bo (ab.setIfInBounds i true) ((d,v)::L) R) (hc:chk ops ab i=true:=by kernel_rfl) (hn:Nat.blt d n=true:=by exact rfl):WD P n B w0 ops K (bo+1) ab L R:=bRa i hi hc hn hy h
theorem wq {id:Nat} {l:List Oper} {y:Code} {Q:gF} (h:WR P n B w0 l.toArray l (λL R=>W P n B w0 y Q L R) L R) (hd:EQ n.rd l=true:=by exact rfl):W P n B w0 (.seq (.region id l.toArray false) y) Q L R:=aD (aK h hd)
theorem mbA {p q:Prop} [Decidable p] [Decidable q] (h:p↔q:=by first|omega|exact⟨λh=>⟨cF,h⟩,λh=>h.2⟩|exact .inl cF|exact⟨.inr,λh=>h.resolve_left cF⟩|exact⟨λh=>h.resolve_left cF, .inr⟩|exact λh=>absurd h.1 cF|simp[*]):Value.bool (decide p)=Value.bool (decide q):=mb h
theorem mfA {p:Prop} [Decidable p] (h: ¬p:=by first|omega|exact⟨λh=>⟨cF,h⟩,λh=>h.2⟩|exact .inl cF|exact⟨.inr,λh=>h.resolve_left cF⟩|exact⟨λh=>h.resolve_left cF, .inr⟩|exact λh=>absurd h.1 cF|simp[*]):Value.bool false=Value.bool (decide p):=bRg h
theorem mtA {p:Prop} [Decidable p] (h:p:=by first|omega|exact⟨λh=>⟨cF,h⟩,λh=>h.2⟩|exact .inl cF|exact⟨.inr,λh=>h.resolve_left cF⟩|exact⟨λh=>h.resolve_left cF, .inr⟩|exact λh=>absurd h.1 cF|simp[*]):Value.bool true=Value.bool (decide p):=bRf h
theorem wG {j e:Nat} {want:Bool} {v:Value} {bo:Nat} {ab:AI} (i:Nat) (hi:ops[i]? =some {dst:=some d,op:=op,type:=ty,pos:=pos,after:=ph,guard:=some (j,want)}) (hj:(ops[j]?).bind (·.dst)=some e) (hb:lk L e=some (.bool want)) (hy:Yl P n B w0 op ty L R v) (h:WD P n B w0 ops K bo (ab.setIfInBounds i true) ((d,v)::L) R) (hc:chk ops ab i=true:=by kernel_rfl) (hn:Nat.blt d n=true:=by exact rfl):WD P n B w0 ops K (bo+1) ab L R:=bMi i hi hc hn hj hb hy h
theorem wO {j e:Nat} {want b:Bool} {bo:Nat} {ab:AI} (i:Nat) (hi:ops[i]? =some {dst:=some d,op:=op,type:=ty,pos:=pos,after:=ph,guard:=some (j,want)}) (hj:(ops[j]?).bind (·.dst)=some e) (hb:lk L e=some (.bool b)) (h:WD P n B w0 ops K bo (ab.setIfInBounds i true) ((d,undef)::L) R) (hc:chk ops ab i=true:=by kernel_rfl) (hn:Nat.blt d n=true:=by exact rfl) (cg:(b==want)=false:=by exact rfl):WD P n B w0 ops K (bo+1) ab L R:=bMj i hi hc hn hj hb cg h
theorem wC {Post:Value->List Row->Prop} {bo:Nat} {ab:AI} (i:Nat) (hi:ops[i]? =some {dst:=some d,op:=op,type:=ty,pos:=pos,after:=ph,guard:=none}) (ha:Ac P n B w0 op ty L R Post) (h: ∀v R',Post v R'->(RD ops ab i=true\/ ∀w,Hp B w0 w R'->Hp B w0 w R)/\WD P n B w0 ops K bo (ab.setIfInBounds i true) ((d,v)::L) R') (hr:Region.ready .any ops ab=[i]:=by kernel_rfl) (hn:Nat.blt d n=true:=by exact rfl):WD P n B w0 ops K (bo+1) ab L R:=bRc i hi hr hn ha h
theorem wN {bo:Nat} {ab:AI} (h:K L R) (hr:Region.ready .any ops ab=[]:=by kernel_rfl):WD P n B w0 ops K bo ab L R:=bIu hr h
theorem wn {x:Operand} {v:Value} (hx:ev L x=some v) (h:K ((d,v)::L) R) (hn:Nat.blt d n=true:=by exact rfl):WR P n B w0 ops ({dst:=some d,op:= .assign x,type:=ty,pos:=pos,after:=ph,guard:=none}::[]) K L R:=wg hx (aA h) hn
theorem sc {L1 L:Env} {t:Nat} {v:Value} (h:lk L t=some v) (hs:Sub L1 L):Sub ((t,v)::L1) L:=Sub.cons h hs
theorem SA {L1 L:Env} (h:Sub L1 L:=by repeat' first|exact Sub.nil|refine sc rfl ?_|refine Sub.to rfl mbA ?_|refine Sub.to rfl mfA ?_|refine Sub.to rfl mtA ?_):Sub L1 L:=h
theorem KP {L1 L:Env} {R1 R:List Row} (h:Sub L1 L:=by repeat' first|exact Sub.nil|refine sc rfl ?_|refine Sub.to rfl mbA ?_|refine Sub.to rfl mfA ?_|refine Sub.to rfl mtA ?_) (e:R=R1:=by exact rfl):Sub L1 L/\ ∀w,Hp B w0 w R->Hp B w0 w R1:=⟨h,λ_ hw=>e▸hw⟩
theorem hiZ: ∀w,Hp B w0 w R->Hp B w0 w R:=λ_ h=>h
theorem hrZ {r:Row}: ∀w,Hp B w0 w (r::R)->Hp B w0 w R:=λ_ h=>h.tail
abbrev CT:= @Ct Go.Proofs.Tryz.prog
abbrev CF (f:FuncId) (a:Array Value) (w:World) (Q:Value->List Row->Prop):Prop:=Ct Go.Proofs.Tryz.prog f a w.heap.size w [] Q
abbrev I (x:Int):Value:= .int .i64 x
abbrev GG (g:Nat):AF:=some ⟨g,0,none⟩
abbrev PG (g:Nat):Value:= .pointer (GG g)
abbrev sl (A:AF) (m c:Nat):Value:= .slice A m c
abbrev bt:Value:= .bool true
abbrev bf:Value:= .bool false
abbrev rc (e s g:Nat) (l:AG):Row:=⟨e,s,some ⟨g,0,none⟩,1,1,l,false⟩
abbrev ri (e:TypeId) (A:AF) (m c:Nat) (l:AH):Row:=⟨e,1,A,m,c,ints .i64 l,false⟩
abbrev ru (e:TypeId) (A:AF) (m c:Nat) (l:AH):Row:=⟨e,1,A,m,c,ints .u8 l,false⟩
end
end Go.Eng
namespace Go.Eng
open Go Go.RowKit
section
variable {w:World}
theorem aKh (k:IntKind):Rd w none ([]:AH).length 0 1 (ints k []):=⟨rfl,cD,cD,λj v hv=>by simp[ints] at hv⟩
theorem bDl {k:IntKind} {x:Addr} {len cap:Nat} {zs:AH} (hl:len<=cap) (hm:cap<=maxLen) (hz:zs.length=cap) (ya: ∀i,i<zs.length->w.cell? (x.add i)=some (.int k (zs.getD i 0))) (hwz: ∀n∈zs,(Lit.int k n).wf=true):
  ∃l:AH,len=l.length/\Rd w (some x) l.length cap 1 (ints k l)/\ ∀n∈l,(Lit.int k n).wf=true:=by
 unfold maxLen at hm;have hlen:(zs.take len).length=len:=by rw[ax];omega
 refine⟨zs.take len,hlen.symm,⟨by rw[bY];omega,G,G,λj v hv=>⟨x,rfl,?_⟩⟩,λn hn=>hwz n (ll hn)⟩
 have hj:j<len:=by
  rcases gp j len with h|h
  ·exact h
  ·rw[ng (by rw[bY];omega)] at hv;cases hv
 rw[ya j G];have hjz:j<zs.length:=G
 simp[ints,hj,av hjz] at hv;subst hv;simp[ai,av hjz]
theorem byteL_wf {l:AH} (h: ∀x∈l,(Lit.int .u8 x).wf=true):aO l:=λx hx=>by
 have:=h x hx;have:=bounds_u8 this;omega
end
end Go.Eng
namespace Go.Eng
open Go
section
variable {P:Program} {n:Nd} {B:Nat} {w0:World} {L:Env} {R:List Row} {ty:TypeId}
theorem GJ (g j:Nat):(⟨g,0,none⟩:Addr).add j=⟨g,j,none⟩:=by unfold Addr.add;split<;>simp_all
theorem Hp.cellAt {w:World} (h:Hp B w0 w R) (i:Nat) {r:Row} {g j:Nat} {v:Value} (hi:R[i]? =some r) (hA:r.A=some ⟨g,0,none⟩) (hv:r.xs[j]? =some v):w.cell? ⟨g,j,none⟩=some v:=by
 obtain⟨a,ha,hc⟩:=(Row.rd (h.own r (gq hi))).cell hv;rw[hA] at ha;simp only[pat,kv,mr] at ha;rw[GJ] at ha;rw[ha];exact hc
theorem Hp.openAt {w:World} (h:Hp B w0 w R) (i:Nat) {r:Row} {g:Nat} (j:Nat) (hi:R[i]? =some r) (ns:r.ro=false) (hA:r.A=some ⟨g,0,none⟩):w.frozen? ⟨g,j,none⟩=false:=by
 have hw:=Row.lies_w (h.own r (gq hi)) ns;rcases hw.2 with⟨hn,_⟩|⟨g',cap,cur,hs,hb,hg,_⟩
 ·rw[hA] at hn;cases hn
 ·rw [hA] at hs;simp only[ko,mr,Am,Aj,zw] at hs;obtain⟨rfl,rfl⟩:=hs;unfold World.frozen?;simp[hg]
theorem ZQ {α:Type} (l:List α) (j k:Nat) (v:α):(l.set j v).take k=(l.take k).set j v:=by
 apply uz;intro i;simp only[qb,xz,ax];by_cases h1:i<k
 ·by_cases h2:j=i
  ·subst h2;have e:(j<min k l.length)=(j<l.length):=by rw[eq_iff_iff];omega
   simp[h1,e]
  ·simp[h1,h2]
 ·by_cases h2:j=i
  ·subst h2;have e: ¬j<min k l.length:=G
   simp[h1,e]
  ·simp[h1,h2]
theorem Hp.set1 {w:World} (h:Hp B w0 w R) (i:Nat) {r:Row} {g j:Nat} {v:Value} (hi:R[i]? =some r) (ns:r.ro=false) (hA:r.A=some ⟨g,0,none⟩):Hp B w0 (w.setCell ⟨g,j,none⟩ v) (R.set i {r with xs:=r.xs.set j v}):=by
 have hw:=Row.lies_w (h.own r (gq hi)) ns;rcases hw.2 with⟨hn,_⟩|⟨g',cap,cur,hs,hb,hg,hnc,sp,jp,ht⟩
 ·rw[hA] at hn;cases hn
 ·rw [hA] at hs;simp only[ko,mr,Am,Aj,zw] at hs;obtain⟨rfl,rfl⟩:=hs;have br:g<w.heap.size:=(gu.1 hg).1;have Tv:w.heap[g]= .cells cur r.e (0,0):=(gu.1 hg).2
  have Zd:(w.setCell ⟨g,j,none⟩ v).heap[g]? =some (.cells (cur.setIfInBounds j v) r.e (0,0)):=by
   simp[World.setCell,br,Array.getElem_modify,Tv]
  refine h.upd hi (row:=some g) ⟨rfl,rfl,rfl,by simp[World.setCell],λk _ hk=> ?_⟩ (ed _) (λk hk=> ?_) ?_ (λa' oe=> .inl ⟨a',oe,rfl⟩)
  ·have: ¬g=k:=λe=>hk (by simp[e]);simp[World.setCell,ww,this]
  ·obtain rfl:=jg hk;exact⟨_,hA,rfl⟩
  ·unfold Row.lies;simp only[ns];refine⟨by simpa using hw.1, .inr ⟨g,r.c,_,by rw[hA],hb,Zd,hnc,sp,by simpa using jp,?_⟩⟩;rw[Array.toList_setIfInBounds,ZQ,ht]
theorem aMr {f:FuncId} {Lc:List Operand} {ts:Array TypeId} {vs:AG} {v:Value} {R1:List Row} (ha:evs L Lc=some vs) (hc: ∀w,Hp B w0 w R-> ∃w',(callFunc f vs.toArray).run P w= .ok (.value v) w'/\Hp B w0 w' R1):
  Ac P n B w0 (.call {callee:= .value (.func f),args:=Lc.toArray,argTypes:=ts}) ty L R (λu R'=>u=v/\R'=R1):=by
 intro a w o K Q ho _ hs hp hk;have e1:=hs.evs ha;obtain⟨w',hr,cr⟩:=hc w hp;have hf:ev L (.func f)=some (.func (.func f) #[] #[]):=rfl;unfold Oper.wp;simp only[execOp,ho,resolve,hs.ev hf,Deferred.ofValue,invoke,jw,pu,kg,um,e1,uq,iv,iw,hr,Oper.upon];exact hk _ _ _ cr ⟨rfl,rfl⟩
end
def bv (x:BitVec 32):Int:=(x.toNat:Int)
theorem CO (m:Nat) (h:m<4294967296):IntKind.u32.wrap (m:Int)=m:=by
 rw[IntKind.wrap_u32];omega
theorem sH (x:BitVec 32):BitVec.ofInt 32 (bv x)=x:=by
 apply BitVec.eq_of_toNat_eq;unfold bv;have:=x.isLt;simp
theorem bAq {x y:BitVec 32} (h:bv x=bv y):x=y:=by
 have:=bq (BitVec.ofInt 32) h;rwa[sH,sH] at this
theorem bBy (p:Int):IntKind.u32.wrap p=bv (BitVec.ofInt 32 p):=by
 rw[IntKind.wrap_u32];unfold bv;rw[zq];omega
section
variable {P:Program} {n:Nd} {B:Nat} {w0:World} {L:Env} {R:List Row} {ty:TypeId}
theorem bCx (p q:BitVec 32) (w:World):(Op.intBits .and .u32 (bv p) (bv q)).run P w= .ok (.int .u32 (bv (p &&& q))) w:=by
 show Result.ok (Value.int .u32 (IntKind.u32.wrap ((BitVec.ofInt 32 (bv p) &&& BitVec.ofInt 32 (bv q)).toNat:Int))) w=_;rw[sH,sH,CO _ (BitVec.isLt _)];rfl
theorem aKa (p q:BitVec 32) (w:World):(Op.intBits .xor .u32 (bv p) (bv q)).run P w= .ok (.int .u32 (bv (p^^^q))) w:=by
 show Result.ok (Value.int .u32 (IntKind.u32.wrap ((BitVec.ofInt 32 (bv p)^^^BitVec.ofInt 32 (bv q)).toNat:Int))) w=_;rw[sH,sH,CO _ (BitVec.isLt _)];rfl
theorem aTz (p q:Int) (w:World):(Op.intBits .xor .u8 p q).run P w= .ok (.int .u8 ((BitVec.ofInt 8 p^^^BitVec.ofInt 8 q).toNat:Int)) w:=by
 show Result.ok (Value.int .u8 (IntKind.u8.wrap ((BitVec.ofInt 8 p^^^BitVec.ofInt 8 q).toNat:Int))) w=_
 have e3:IntKind.u8.wrap ((BitVec.ofInt 8 p^^^BitVec.ofInt 8 q).toNat:Int)=((BitVec.ofInt 8 p^^^BitVec.ofInt 8 q).toNat:Int):=by
  rw[Cz];have:=(BitVec.ofInt 8 p^^^BitVec.ofInt 8 q).isLt;omega
 rw[e3]
theorem bCu (p:BitVec 32) (j:IntKind) (k:Nat) (hk:k<=32) (w:World):(Op.shift .shr .u32 (bv p) j (k:Int)).run P w= .ok (.int .u32 (bv (p>>>k))) w:=by
 have hn: ¬((k:Int)<0):=G
 have hm:min (k:Int).toNat (IntKind.bits .u32)=k:=by
  have:IntKind.bits .u32=32:=rfl;omega
 have he:Int.fdiv (bv p) (2^k)=bv (p>>>k):=by
  unfold bv;rw[BitVec.toNat_ushiftRight,Nat.shiftRight_eq_div_pow,Br _ (by exact xc G)];simp
 unfold Op.shift;rw[df hn];simp only[hm,pu];rw[he]
theorem aEo {x y:Operand} {t u:TypeId} {p q:BitVec 32} (hx:ev L x=some (.int .u32 (bv p))) (hy:ev L y=some (.int .u32 (bv q))):Yl P n B w0 (.binOp .and t x y u) ty L R (.int .u32 (bv (p &&& q))):=by
 intro a w o ho _ hs _;simp[execOp,ho,binOp,eqGuard,hs.ev hx,hs.ev hy,bCx]
theorem GN {x y:Operand} {t u:TypeId} {p q:BitVec 32} (hx:ev L x=some (.int .u32 (bv p))) (hy:ev L y=some (.int .u32 (bv q))):Yl P n B w0 (.binOp .xor t x y u) ty L R (.int .u32 (bv (p^^^q))):=by
 intro a w o ho _ hs _;simp[execOp,ho,binOp,eqGuard,hs.ev hx,hs.ev hy,aKa]
theorem ML {x y:Operand} {t u:TypeId} {p:BitVec 32} {j:IntKind} {k:Nat} (hx:ev L x=some (.int .u32 (bv p))) (hy:ev L y=some (.int j (k:Int))) (hk:Nat.ble k 32=true):Yl P n B w0 (.binOp .shr t x y u) ty L R (.int .u32 (bv (p>>>k))):=by
 intro a w o ho _ hs _;simp[execOp,ho,binOp,eqGuard,hs.ev hx,hs.ev hy,bCu p j k (ak hk)]
theorem bIq {x:Operand} {t:TypeId} {p:BitVec 32} (hx:ev L x=some (.int .u32 (bv p))):Yl P n B w0 (.unOp .xor t x) ty L R (.int .u32 (bv (4294967295#32^^^p))):=by
 intro a w o ho _ hs _;have e2:(if IntKind.u32.signed=true then(-1:Int) else IntKind.u32.max)=bv 4294967295#32:=rfl;simp[execOp,ho,hs.ev hx,Op.unary,e2,aKa]
theorem WE {x:Operand} {s d:TypeId} {j:IntKind} {p:Int} {td:TypeDesc} (en:P.underlying s=some td) (hd:P.underlying d=some (.int .u32)) (hx:ev L x=some (.int j p)):Yl P n B w0 (.convert s d x) ty L R (.int .u32 (bv (BitVec.ofInt 32 p))):=by
 have:=nR (P:=P) (n:=n) (B:=B) (w0:=w0) (R:=R) (ty:=ty) en hd hx;rwa[bBy] at this
theorem bHc {x y:Operand} {t u:TypeId} {p q:BitVec 32} (hx:ev L x=some (.int .u32 (bv p))) (hy:ev L y=some (.int .u32 (bv q))):Yl P n B w0 (.binOp .eql t x y u) ty L R (.bool (decide (p=q))):=by
 have:=eT (P:=P) (n:=n) (B:=B) (w0:=w0) (R:=R) (ty:=ty) (t:=t) (u:=u) hx hy
 have e:(decide (bv p=bv q))=decide (p=q):=by
  rw[ug];exact⟨bAq,λh=>by rw[h]⟩
 rwa[e] at this
theorem aJo {x y:Operand} {t u:TypeId} {p q:BitVec 32} (hx:ev L x=some (.int .u32 (bv p))) (hy:ev L y=some (.int .u32 (bv q))):Yl P n B w0 (.binOp .neq t x y u) ty L R (.bool (decide (p≠q))):=by
 have:=fQ (P:=P) (n:=n) (B:=B) (w0:=w0) (R:=R) (ty:=ty) (t:=t) (u:=u) hx hy
 have e:(decide (bv p≠bv q))=decide (p≠q):=by
  rw[ug];exact⟨λh e=>h (by rw[e]),λh e=>h (bAq e)⟩
 rwa[e] at this
theorem bIn {x y:Operand} {t u:TypeId} {p q:Int} (hx:ev L x=some (.int .u8 p)) (hy:ev L y=some (.int .u8 q)):Yl P n B w0 (.binOp .xor t x y u) ty L R (.int .u8 ((BitVec.ofInt 8 p^^^BitVec.ofInt 8 q).toNat:Int)):=by
 intro a w o ho _ hs _;simp only[execOp,ho,binOp,eqGuard,hs.ev hx,hs.ev hy];simp[aTz]
theorem WP (k:Nat) (t d:TypeId) (p:AF) (ht:P.underlying t=some (.pointer d)) (w:World):(Op.equalIn (k+1) t (.pointer p) (.pointer none)).run P w= .ok p.isNone w:=by
 cases p<;>simp[Op.equalIn,ou ht,samePointer]
theorem NR (t d:TypeId) (p:AF) (ht:P.underlying t=some (.pointer d)) (w:World):(Op.equal t (.pointer p) (.pointer none)).run P w= .ok p.isNone w:=by
 exact WP 9999 t d p ht w
theorem aMz {x:Operand} {t tf:TypeId} {fs:Array Field} {k st g j off m:Nat} (hu:P.underlying t=some (.struct fs)) (hf:(fs[k]?).map (λf=>(f.offset,f.type))=some (off,tf)) (gd:(P.info? tf).map (·.size)=some st) (Mp:Nat.blt 0 st=true) (hx:ev L x=some (.pointer (some ⟨g,j,none⟩))) (hm:j+off=m):
  Yl P n B w0 (.fieldAddr t x k) ty L R (.pointer (some ⟨g,m,none⟩)):=by
 obtain⟨f,hf',he⟩:=je.1 hf;simp only[Ao] at he;obtain⟨rfl,rfl⟩:=he;have:=ZB (P:=P) (n:=n) (B:=B) (w0:=w0) (R:=R) (ty:=ty) hu hf' gd Mp hx
 have e:(⟨g,j,none⟩:Addr).add f.offset=⟨g,m,none⟩:=by
  rw[<-hm];unfold Addr.add;split<;>simp_all
 rwa[e] at this
theorem TA {x ix:Operand} {t e:TypeId} {k:IntKind} {g m N:Nat} {i:Int} {r:Row} (q:Nat) (hq:R[q]? =some r) (hA:r.A=some ⟨g,0,none⟩) (ht:P.underlying t=some (.array N e)) (hi:(P.info? e).map (·.size)=some 1) (hx:ev L x=some (.pointer (some ⟨g,m,none⟩))) (ti:ev L ix=some (.int k i)) (br:m<r.xs.length) (h0:0<=i) (h1:i<N):
  Yl P n B w0 (.indexAddr t x ix) ty L R (.pointer (some ⟨g,m+i.toNat,none⟩)):=by
 have Pd:(some ⟨g,m,none⟩:AF)=pat (some ⟨g,0,none⟩) m:=by
  simp only[pat,kv,GJ]
 have:=BB (P:=P) (n:=n) (B:=B) (w0:=w0) (ty:=ty) ht hi hx Pd ti (hA▸rdR q hq) br h0 h1;rw[qp] at this;simpa only[pat,kv,GJ] using this
theorem bIr {x:Operand} {t:TypeId} {d:TypeDesc} {g j:Nat} {v:Value} {r:Row} (q:Nat) (hq:R[q]? =some r) (hA:r.A=some ⟨g,0,none⟩) (hu:P.underlying t=some d) (hd:JK d=false) (hx:ev L x=some (.pointer (some ⟨g,j,none⟩))) (hv:r.xs[j]? =some v):
  Yl P n B w0 (.load t x) ty L R v:=by
 have Pd:(some ⟨g,j,none⟩:AF)=pat (some ⟨g,0,none⟩) j:=by
  simp only[pat,kv,GJ]
 exact kH hu hd hx Pd (hA▸rdR q hq) hv
theorem bB {x y:Operand} {t:TypeId} {j:Nat} {r:Row} {v:Value} {g:Nat} (q:Nat) (hq:R[q]? =some r) (ns:r.ro=false) (hA:r.A=some ⟨g,0,none⟩) (gd:(P.info? t).map (·.size)=some 1) (hx:ev L x=some (.pointer (some ⟨g,j,none⟩))) (hy:ev L y=some v) (hv:v.cells.toList=[v]) (h1:v.oneCell'=true) (hj:j<r.xs.length):
  Ac P n B w0 (.store t x y) ty L R (λ_ R'=>R'=R.set q {r with xs:=r.xs.set j v}):=
 YR q hq ns hA gd hx (by simp only[pat,hA,kv,GJ]) hy hv h1 hj
theorem aSx {t:TypeId} {v:Value} (h: ∀w,(Instr.build t #[]).run P w= .ok v w):Yl P n B w0 (.build t #[]) ty L R v:=by
 intro a w o ho _ hs _;simp[execOp,ho,h]
theorem OU {r0 r1:Row}: ∀ {R:List Row} {i:Nat},R[i]? =some r0->(r1::R.eraseIdx i).Perm (R.set i r1)
 |[],i,h=>by simp at h
 |q::R,0,_=> .refl _
 |q::R,i+1,h=>by
  have ih:(r1::R.eraseIdx i).Perm (R.set i r1):=OU (by simpa using h);exact(List.Perm.swap q r1 _).trans (ih.cons q)
theorem Ct.at {f:FuncId} {args:Array Value} {r0 r1:Row} {V:Value} (i:Nat) (hi:R[i]? =some r0) (h:Ct P f args B w0 (r0::R.eraseIdx i) (λv R'=>v=V/\R'=r1::R.eraseIdx i)):Ct P f args B w0 R (λv R'=>v=V/\R'=R.set i r1):=by
 intro w hw
 have Qo:Hp B w0 w (r0::R.eraseIdx i):=by
  have hp:=OU (r1:=r0) hi;have br:i<R.length:=(fw.1 hi).1
  have e:R.set i r0=R:=by
   rw[<-(fw.1 hi).2];exact List.set_getElem_self br
  rw[e] at hp;exact hw.perm hp.symm
 refine(h w Qo).mono ?_;rintro e w' ⟨v,R',rfl,hh,rfl,rfl⟩;exact⟨_,_,rfl,hh.perm (OU hi),rfl,rfl⟩
theorem kZ {x y:Operand} {t u d:TypeId} {p:AF} (ht:P.underlying t=some (.pointer d)) (hx:ev L x=some (.pointer p)) (hy:ev L y=some (.pointer none)):Yl P n B w0 (.binOp .eql t x y u) ty L R (.bool p.isNone):=by
 intro a w o ho _ hs _;simp[execOp,ho,binOp,eqGuard,hs.ev hx,hs.ev hy,NR t d p ht]
theorem bBx {x y:Operand} {t u d:TypeId} {p:AF} (ht:P.underlying t=some (.pointer d)) (hx:ev L x=some (.pointer p)) (hy:ev L y=some (.pointer none)):Yl P n B w0 (.binOp .neq t x y u) ty L R (.bool (!p.isNone)):=by
 intro a w o ho _ hs _;simp[execOp,ho,binOp,eqGuard,hs.ev hx,hs.ev hy,NR t d p ht]
end
end Go.Eng
namespace Go.Eng
open Go Go.RowKit
def rdl (ls:AD) (i:Int):AH:=ls.getD i.toNat []
theorem aVk {ls:AD} {i:Int} (h0:0<=i) (h:i<ls.length):ls.drop i.toNat=rdl ls i::ls.drop (i+1).toNat:=by
 have hl:i.toNat<ls.length:=G
 have e:(i+1).toNat=i.toNat+1:=G
 rw[e,mf hl];simp[rdl,ai,av hl]
theorem bDj {ls:AD} {i:Int} (h0:0<=i) (h:i<ls.length):rdl ls i∈ls:=by
 have hl:i.toNat<ls.length:=G
 simp[rdl,ai,av hl]
def SlW (k:IntKind) (w:World) (vals:AG) (ls:AD):Prop:=vals.length=ls.length/\ ∀j:Nat,j<ls.length-> ∃(A:AF) (c:Nat),vals[j]? =some (Value.slice A (ls.getD j []).length c)/\Rd w A (ls.getD j []).length c 1 (ints k (ls.getD j []))/\(∀x∈ls.getD j [],(Lit.int k x).wf=true)/\(ls.getD j []).length<=140737488355327
theorem SlW.at {k:IntKind} {w:World} {vals:AG} {ls:AD} (h:SlW k w vals ls) {i:Int} (h0:0<=i) (h1:i<ls.length): ∃(A:AF) (c:Nat),vals[i.toNat]? =some (Value.slice A (rdl ls i).length c)/\Rd w A (rdl ls i).length c 1 (ints k (rdl ls i))/\(∀x∈rdl ls i,(Lit.int k x).wf=true)/\(rdl ls i).length<=140737488355327:=
 h.2 i.toNat G
theorem SlW.c {k:IntKind} {w w':World} {R:List Row} {vals:AG} {ls:AD} (h:SlW k w vals ls) (hw:Hp w.heap.size w w' R):SlW k w' vals ls:=
 ⟨h.1,λj hj=>by
  obtain⟨A,c,h1,h2,h3⟩:=h.2 j hj
  exact⟨A,c,h1,h2.below hw.below,h3⟩⟩
theorem fA (k:IntKind) (w:World):SlW k w [] []:=⟨rfl,λj hj=>by simp at hj⟩
theorem xA {H:Type} {P:Program} {t:TypeId}: ∀ {ds:List (DataW H)} {d:DataW H},d∈ds-> ∀n∈d.weights P t,n∈DataW.weightsAll P t ds
 |[],_,h,_,_=>by cases h
 |d'::ds,d,hd,n,hn=>by
  simp only[DataW.weightsAll,ek];rcases jd.1 hd with rfl|h
  ·exact .inl hn
  ·exact .inr (xA h n hn)
theorem aNy {H:Type} {P:Program} {ts:List TypeId} {ds:List (DataW H)} (h:(DataW.weightsEach P ts ds).all (· <=reachBytes)=true) {j:Nat} {t e q:TypeId} {k:IntKind} {len:Nat} {A:Nat->AF} {L:Nat->Nat} {Z:Nat->AH} {spare:List (DataW H)}
  (ht:ts[j]? =some t) (hd:ds[j]? =some (.slice ((List.range len).map λr=>Go.Deep.intRow k (A r) (L r) (Z r)) spare)) (hu:P.underlying t=some (.slice e)) (Nq:P.underlying e=some (.slice q)) (hb:Nat.ble 1 (P.bytesOf q)=true) {r:Nat} (hr:r<len) (hL:L r<=(Z r).length) (hn:A r=none->(Z r).length=0):L r<=140737488355327:=by
 cases hA:A r with
 |none=>have:=hn hA;omega
 | some a=>
  have hm:(DataW.slice (Go.ChangeShapes.lits k ((Z r).take (L r))) (Go.ChangeShapes.lits k ((Z r).drop (L r))):DataW H)∈(List.range len).map λr=>Go.Deep.intRow k (A r) (L r) (Z r):=by
   refine ii.2 ⟨r,jy.2 hr,?_⟩;simp[Go.Deep.intRow,hA]
  have hw:=zh (vw.1 h _ (DataW.weights_mem_each ht hd (((Go.ChangeShapes.lits k ((Z r).take (L r)):List (DataW H)).length+(Go.ChangeShapes.lits k ((Z r).drop (L r)):List (DataW H)).length)*P.bytesOf q) (by
   simp only[DataW.weights,hu,jd,ek]
   exact Or.inr (Or.inl (xA hm _ (by simp[DataW.weights,Nq]))))))
  have u6:=ak hb;have Wy:=reachBytes_lt
  have hl:(Go.ChangeShapes.lits k ((Z r).take (L r)):List (DataW H)).length=L r:=by
   simp[Go.ChangeShapes.lits];omega
  rw[hl] at hw;have:L r*1<=(L r+(Go.ChangeShapes.lits k ((Z r).drop (L r)):List (DataW H)).length)*P.bytesOf q:=Bu G u6;omega
theorem aTx {k:IntKind} {W:World} {a:Addr} {base len cap:Nat} {A:Nat->AF} {L C:Nat->Nat} {Z:Nat->AH} (hl:len<=cap) (hm:cap<=maxLen)
  (h: ∀r,r<cap->W.cell? (a.add r)=some (.slice (A r) (L r) (C r))/\L r<=C r/\C r<=maxLen/\(Z r).length=C r/\(∀n∈Z r,(Lit.int k n).wf=true)/\(A r=none->C r=0)/\ ∀a',A r=some a'->base<=a'.block/\ ∀c,c<C r->W.cell? (a'.add c)=some (.int k ((Z r).getD c 0))) (hs: ∀r,r<len->L r<=140737488355327):
  ∃(vals:AG) (ls:AD),len=ls.length/\Rd W (some a) ls.length cap 1 vals/\SlW k W vals ls:=by
 unfold maxLen at hm;refine⟨(List.range len).map λr=> .slice (A r) (L r) (C r),(List.range len).map λr=>(Z r).take (L r),cD,⟨cD,cH,by simpa using hl,λj v hv=>⟨a,rfl,?_⟩⟩,cD,λj hj=> ?_⟩
 ·rw [lq] at hv;obtain⟨r,hr,rfl⟩:=je.1 hv;obtain⟨br,he⟩:=fw.1 hr;rw[xk] at he;subst he;rw[yc] at br;exact(h j G).1
 ·simp only[bu,yc] at hj;obtain⟨h1,h2,h3,h4,h5,h6,h7⟩:=h j G
  have e:((List.range len).map λr=>(Z r).take (L r)).getD j []=(Z j).take (L j):=by
   simp[ai,zi hj]
  have el:((Z j).take (L j)).length=L j:=by rw[ax];omega
  rw[e,el];unfold maxLen at h3;refine⟨A j,C j,?_,⟨by rw[bY,el];omega,G,h2,λq v hq=> ?_⟩,λx hx=>h5 x (ll hx),hs j hj⟩
  ·rw [lq,zi hj];rfl
  ·have yi:q<L j:=by
    rcases gp q (L j) with h|h
    ·exact h
    ·rw[ng (by rw[bY,el];omega)] at hq;cases hq
   cases hA:A j with
   |none=>have:=h6 hA;omega
   |some a'=>
    refine⟨a',rfl,?_⟩;rw[(h7 a' hA).2 q G];have hqz:q<(Z j).length:=G
    simp[ints,yi,av hqz] at hq;subst hq;simp[ai,av hqz]
section
variable {P:Program} {n:Nd} {B:Nat} {w0:World} {L:Env} {R:List Row} {ty:TypeId}
theorem dY {x y:Operand} {t e sz:Nat} {v:Value} {xs vs:AG} {g:Nat} (i:Nat) (hi:R[i]? =some ⟨e,sz,some ⟨g,0,none⟩,1,1,xs,false⟩) (gd:(P.info? t).map (·.size)=some sz) (hx:ev L x=some (.pointer (some ⟨g,0,none⟩))) (hy:ev L y=some v) (hv:v.cells.toList=vs) (h1: ∀v∈vs,v.oneCell'=true) (hl:vs.length=sz):
  Ac P n B w0 (.store t x y) ty L R (λ_ R'=>R'=R.set i ⟨e,sz,some ⟨g,0,none⟩,1,1,vs,false⟩):=by
 intro a w o K Q ho Mw hs hp hk
 have Pk:xs.length=sz:=by
  have:=(Row.rd (hp.own _ (gq hi))).len;simpa using this
 have:=RJ (P:=P) (n:=n) (B:=B) (w0:=w0) (ty:=ty) (j:=0) i hi rfl rfl (vs:=vs) (by rw[gd,hl]) hx (by simp[pat,Addr.add]) hy hv h1 (by simp only;omega);simp only[zb,iv,ny,hl,<-Pk,Jr,iw] at this;rw[Pk] at this;exact this a w o K Q ho Mw hs hp hk
theorem aSw {x y:Operand} {t u:TypeId} {p q:Value} {b:Bool} (h: ∀w,(binOp .eql t p q).run P w= .ok (.bool b) w) (hg: ∀w,(eqGuard .eql t x y p q).run P w= .ok () w) (hx:ev L x=some p) (hy:ev L y=some q):Yl P n B w0 (.binOp .eql t x y u) ty L R (.bool b):=by
 intro a w o ho _ hs _;simp[execOp,ho,hs.ev hx,hs.ev hy,h,hg]
end
def prs (l:AE):AG:=l.flatMap λp=>[.int .i64 p.1, .int .i64 p.2]
def rdp (l:AE) (i:Int):Int × Int:=l.getD i.toNat (0,0)
theorem jU: ∀l:AE,(prs l).length=l.length*2
 |[]=>rfl
 |p::l=>by
  have:=jU l;unfold prs at*;rw[Ae,ah,this];simp;omega
theorem OQ (l m:AE):prs (l++m)=prs l++prs m:=by simp[prs]
theorem OP: ∀(l:AE) (i:Nat),(prs l).drop (i*2)=prs (l.drop i)
 |l,0=>cD
 |[],i+1=>by simp[prs]
 |p::l,i+1=>by
  have:=OP l i;have e:(i+1)*2=i*2+1+1:=G
  rw[e];show((Value.int .i64 p.1::Value.int .i64 p.2::prs l).drop (i*2+1+1))=_;rw[List.drop_succ_cons,List.drop_succ_cons,this];rfl
theorem aVj {l:AE} {i:Int} (h0:0<=i) (h:i<l.length):l.drop i.toNat=rdp l i::l.drop (i+1).toNat:=by
 have hl:i.toNat<l.length:=G
 have e:(i+1).toNat=i.toNat+1:=G
 rw[e,mf hl];simp[rdp,ai,av hl]
theorem bJs {l:AE} {i:Int} (h0:0<=i) (h:i<l.length):((prs l).drop (i.toNat*2)).take 2=[.int .i64 (rdp l i).1, .int .i64 (rdp l i).2]:=by
 rw[OP,aVj h0 h];rfl
theorem bDs (l:AE): ∀v∈prs l,v.oneCell'=true:=by
 intro v hv;unfold prs at hv;obtain⟨p,_,hp⟩:=Az.1 hv;simp at hp;rcases hp with rfl|rfl<;>rfl
section
variable {P:Program} {n:Nd} {B:Nat} {w0:World} {L:Env} {R:List Row} {ty:TypeId}
theorem aJp {x:Operand} {t:TypeId} {d:TypeDesc} {A:AF} {m c:Nat} {l:AE} {i:Int} (hu:P.underlying t=some d) (hd:JK d=true) (gd:(P.info? t).map (·.size)=some 2) (hx:ev L x=some (.pointer (pat A (i.toNat*2)))) (hr:RdC B w0 R A m c 2 (prs l)) (h0:0<=i:=by omega) (h1:i<l.length:=by omega):
  Yl P n B w0 (.load t x) ty L R (.agg #[.int .i64 (rdp l i).1, .int .i64 (rdp l i).2]):=by
 have:=aSv (P:=P) (n:=n) (B:=B) (w0:=w0) (R:=R) (ty:=ty) hu hd gd hx rfl hr (by rw[jU];omega) G;rwa[bJs h0 h1] at this
theorem kE {s x:Operand} {t e:TypeId} {z:Value} {bytes m p c c2:Nat} {A A2:AF} {l news:AE} (i:Nat) (hi:R[i]? =some ⟨e,2,A,p,c,prs l,false⟩) (ht:P.underlying t=some (.slice e)) (ee:(P.info? e).map (λi=>(i.zero,i.size,i.bytes))=some (some z,2,bytes)) (hz:z.cells.size=2) (a8:Nat.blt 0 bytes=true)
  (hs:ev L s=some (.slice A p c)) (hx:ev L x=some (.slice A2 m c2)) (gg:RdC B w0 R A2 m c2 2 (prs news)) (kj:(p+m)*bytes<=140737488355328):
  Ac P n B w0 (.call {callee:= .builtin .append,args:= #[s,x],argTypes:= #[t,t]}) ty L R (λv R'=> ∃A' c',v= .slice A' (p+m) c'/\R'=R.set i ⟨e,2,A',p+m,c',prs (l++news),false⟩):=by
 have:=fK (P:=P) (n:=n) (B:=B) (w0:=w0) (ty:=ty) i hi rfl ht ee hz rfl a8 hs hx gg (bDs news) kj;simp only[<-OQ] at this;exact this
theorem YT {t e:TypeId} {x:Operand} {a b:Int} (ht:P.underlying t=some (.slice e)) (ee:(P.info? e).map (λi=>(i.zero,i.size))=some (some (.agg #[.int .i64 0, .int .i64 0]),2)) (hx:ev L x=some (.agg #[.int .i64 a, .int .i64 b])):
  Ac P n B w0 (.buildSlice t 1 #[(0,x)]) ty L R (λv R'=> ∃g,v= .slice (some ⟨g,0,none⟩) 1 1/\R'=⟨e,2,some ⟨g,0,none⟩,1,1,prs [(a,b)],false⟩::R):=by
 have hv:evp L [(0,x)]=some [(0, .agg #[.int .i64 a, .int .i64 b])]:=by simp[evp,hx]
 exact rD (P:=P) (n:=n) (B:=B) (w0:=w0) (L:=L) (R:=R) (ty:=ty) (len:=1) (ps:=[(0,x)]) (cells:= #[.int .i64 a, .int .i64 b]) ht ee hv cC cC cA (by rfl)
theorem aVs {w:World} {m c:Nat} {l:AE} (h:Rd w none m c 2 (prs l)):l=[]:=by
 cases l with
 |nil=>rfl
 |cons p l=>
  obtain⟨a,ha,_⟩:=h.at_ 0 (.int .i64 p.1) rfl;cases ha
theorem Hp.nilP {w:World} (h:Hp B w0 w R) (e:TypeId):Hp B w0 w (⟨e,2,none,0,0,prs [],false⟩::R):=h.nil e 2
theorem gK {x:Operand} {t:TypeId} {d:TypeDesc} {g j m c sz:Nat} {xs:AG} {v:Value} (hr:RdC B w0 R (some ⟨g,0,none⟩) m c sz xs) (hu:P.underlying t=some d) (hd:JK d=false) (hx:ev L x=some (.pointer (some ⟨g,j,none⟩))) (hv:xs[j]? =some v):Yl P n B w0 (.load t x) ty L R v:=
 kH hu hd hx (by simp only[pat,kv,GJ]) hr hv
theorem bH {x:Operand} {t:TypeId} {d:TypeDesc} {g j st m c sz:Nat} {xs vs:AG} (hr:RdC B w0 R (some ⟨g,0,none⟩) m c sz xs) (hu:P.underlying t=some d) (hd:JK d=true) (gd:(P.info? t).map (·.size)=some st) (hx:ev L x=some (.pointer (some ⟨g,j,none⟩))) (hv:(xs.drop j).take st=vs) (hj:j+st<=xs.length) (Mp:Nat.blt 0 st=true):Yl P n B w0 (.load t x) ty L R (.agg vs.toArray):=by
 have:=aSv (P:=P) (n:=n) (B:=B) (w0:=w0) (ty:=ty) hu hd gd hx (by simp only[pat,kv,GJ]) hr hj (ak Mp);rwa[hv] at this
theorem bS {x ix:Operand} {t e:TypeId} {k:IntKind} {g j q N m c sz:Nat} {i:Int} {xs:AG} (hr:RdC B w0 R (some ⟨g,0,none⟩) m c sz xs) (ht:P.underlying t=some (.array N e)) (hi:(P.info? e).map (·.size)=some 1) (hx:ev L x=some (.pointer (some ⟨g,j,none⟩))) (ti:ev L ix=some (.int k i)) (br:j<xs.length) (h0:0<=i) (h1:i<N) (hq:j+i.toNat=q):
  Yl P n B w0 (.indexAddr t x ix) ty L R (.pointer (some ⟨g,q,none⟩)):=by
 subst hq
 have Pd:(some ⟨g,j,none⟩:AF)=pat (some ⟨g,0,none⟩) j:=by
  simp only[pat,kv,GJ]
 have:=BB (P:=P) (n:=n) (B:=B) (w0:=w0) (ty:=ty) ht hi hx Pd ti hr br h0 h1;rw[qp] at this;simpa only[pat,kv,GJ] using this
theorem iC {t:TypeId} {ps:List (Nat × Operand)} {vs:List (Nat × Value)} {v:Value} (hv:evp L ps=some vs) (h: ∀w,(Instr.build t vs.toArray).run P w= .ok v w):Yl P n B w0 (.build t ps.toArray) ty L R v:=by
 intro a w o ho _ hs _;have Lu:=hs.evp hv;simp[execOp,ho,Lu,h]
theorem aVr (l:AE) (i:Nat):(prs l).take (i*2)=prs (l.take i):=by
 have h:prs l=prs (l.take i)++prs (l.drop i):=by rw[<-OQ,gz]
 have hl:=jU (l.take i);rw[ax] at hl;rw[h];by_cases hi:i<=l.length
 ·rw[Gf G,bg G]
 ·rw[ol G,show prs []=[] from rfl,iw,bg G]
theorem RdC.toP {A:AF} {m h c:Nat} {l:AE} (hr:RdC B w0 R A m c 2 (prs l)) (h2:h<=m):RdC B w0 R A h c 2 (prs (l.take h)):=by
 have:=hr.to h2;rwa[aVr] at this
theorem RdC.fromP {A:AF} {m c h:Nat} {l:AE} (hr:RdC B w0 R A m c 2 (prs l)) (h1:h<=m):RdC B w0 R (jO A h c 2) (m-h) (c-h) 2 (prs (l.drop h)):=by
 intro w hw;have hl:=(hr w hw).len;have:=hr.cut h1 (ed m) w hw;rw[OP,bg (by rw[jU,bn];rw[jU] at hl;omega)] at this;exact this
theorem aAh (k:Nat) (t e:TypeId) (A:AF) (m c:Nat) (ht:P.underlying t=some (.slice e)) (w:World):(Op.equalIn (k+1) t (.slice A m c) (.slice none 0 0)).run P w= .ok A.isNone w:=by
 cases A<;>simp[Op.equalIn,ou ht]
theorem aOf (t e:TypeId) (A:AF) (m c:Nat) (ht:P.underlying t=some (.slice e)) (w:World):(Op.equal t (.slice A m c) (.slice none 0 0)).run P w= .ok A.isNone w:=aAh 9999 t e A m c ht w
theorem aJn {x y:Operand} {t u e:TypeId} {A:AF} {m c:Nat} (ht:P.underlying t=some (.slice e)) (hx:ev L x=some (.slice A m c)) (hy:ev L y=some (.slice none 0 0)):Yl P n B w0 (.binOp .eql t x y u) ty L R (.bool A.isNone):=by
 intro a w o ho _ hs _;simp[execOp,ho,binOp,eqGuard,hs.ev hx,hs.ev hy,aOf t e A m c ht]
theorem YS {t e:TypeId} (ht:P.underlying t=some (.slice e)) (ee:(P.info? e).map (λi=>(i.zero,i.size))=some (some (.agg #[.int .i64 0, .int .i64 0]),2)):
  Ac P n B w0 (.buildSlice t 0 #[]) ty L R (λv R'=> ∃g,v= .slice (some ⟨g,0,none⟩) 0 0/\R'=⟨e,2,some ⟨g,0,none⟩,0,0,prs [],false⟩::R):=
 rD (P:=P) (n:=n) (B:=B) (w0:=w0) (L:=L) (R:=R) (ty:=ty) (len:=0) (ps:=[]) (vs:=[]) (cells:= #[]) ht ee rfl cC cC cA (by rfl)
theorem Hp.selR {w:World} {F F':List Row} (h:Hp B w0 w (F++R)) (is:List Nat) (hn:is.Nodup) (hR:is.map (λi=>F[i]?)=F'.map some):Hp B w0 w (F'++R):=by
 have hp:=ku.1 h.apart;have hF:Hp B w0 w F:=⟨h.below,h.base,λr hr=>h.own r (ek.2 (.inl hr)),hp.1,h.late⟩;have Ys:=hF.sel is hn hR
 have mem: ∀q∈F',q∈F:=by
  intro q hq;have h1:some q∈F'.map some:=ii.2 ⟨q,hq,rfl⟩;rw[<-hR] at h1;obtain⟨i,_,hi⟩:=ii.1 h1;exact gq hi
 refine⟨h.below,h.base,λr hr=> ?_,ku.2 ⟨Ys.apart,hp.2.1,λq hq r hr=>hp.2.2 q (mem q hq) r hr⟩,h.late⟩;rcases ek.1 hr with h1|h1
 ·exact h.own r (ek.2 (.inl (mem r h1)))
 ·exact h.own r (ek.2 (.inr h1))
end
end Go.Eng
namespace Go.Eng
open Go Go.RowKit
section
variable {P:Program} {n:Nd} {B:Nat} {w0:World} {L:Env} {R:List Row} {ty:TypeId}
theorem yF {x:Operand} {t tf:TypeId} {fs:Array Field} {k st g j:Nat} (off m:Nat) (hu:P.underlying t=some (.struct fs)) (gd:(P.info? tf).map (·.size)=some st) (hx:ev L x=some (.pointer (some ⟨g,j,none⟩))) (hf:(fs[k]?).map (λf=>(f.offset,f.type))=some (off,tf):=by exact rfl) (Mp:Nat.blt 0 st=true:=by exact rfl) (hm:j+off=m:=by exact rfl):Yl P n B w0 (.fieldAddr t x k) ty L R (.pointer (some ⟨g,m,none⟩)):=aMz hu hf gd Mp hx hm
theorem yL {x:Operand} {t e:TypeId} {d:TypeDesc} {g j m c sz:Nat} {xs:AG} {v:Value} {ro:Bool} (i:Nat) (hu:P.underlying t=some d) (hx:ev L x=some (.pointer (some ⟨g,j,none⟩))) (hi:R[i]? =some ⟨e,sz,some ⟨g,0,none⟩,m,c,xs,ro⟩) (hv:xs[j]? =some v) (hd:JK d=false:=by exact rfl):Yl P n B w0 (.load t x) ty L R v:=gK (rdr i hi) hu hd hx hv
end
end Go.Eng
namespace Go.Eng
open Go Go.RowKit Go.Proofs Go.Sort
theorem LU: ∀(l:AE) (t:Nat),t<l.length*2->(prs l)[t]? =some (if t%2=0 then .int .i64 (l.getD (t/2) (0,0)).1 else .int .i64 (l.getD (t/2) (0,0)).2)
 |[],t,h=>by simp at h
 |p::l,0,_=>rfl
 |p::l,1,_=>rfl
 |p::l,t+2,h=>by
  have ih:=LU l t (by simp only[dn] at h;omega);have e1:(t+2)%2=t%2:=G
  have e2:(t+2)/2=t/2+1:=G
  rw[e1,e2];show(Value.int .i64 p.1::Value.int .i64 p.2::prs l)[t+2]? =_;rw[Dw,Dw,ih];rfl
def encP {l:AE} (x: {p:Int × Int//p∈l}):AG:=[.int .i64 x.1.1, .int .i64 x.1.2]
theorem VD {l:AE} [Inhabited {p:Int × Int//p∈l}] (d:Array {p:Int × Int//p∈l}):(flatK encP 2 d).toList=prs (d.toList.map Subtype.val):=by
 apply uz;intro t;have hs:(flatK encP 2 d).size=d.size*2:=size_flatK _ _ _;by_cases h:t<d.size*2
 ·rw [LU _ t (by simpa using h),qz];have h2:t/2<d.size:=G
  have hg:(flatK encP 2 d)[t]? =some ((flatK encP 2 d)[t]!):=by
   rw[pq (by rw[hs];exact h),si _ t (by rw[hs];exact h)]
  rw[hg,get_flatK encP 2 d t h];have e:d[t/2]! =d[t/2]:=si d _ h2
  have e3:(d.toList.map Subtype.val).getD (t/2) (0,0)=d[t/2].1:=by
   simp[ai,h2]
  rw[e,e3];rcases Nat.mod_two_eq_zero_or_one t with hm|hm
  ·rw[hm];rfl
  ·rw[hm];rfl
 ·rw[ng (by rw[jq,hs];omega),ng (by rw[jU];simp;omega)]
end Go.Eng
namespace Go.Eng
open Go Go.RowKit
def bools (l:List Bool):AG:=l.map Value.bool
def rdb (l:List Bool) (i:Int):Bool:=l.getD i.toNat false
def qW (l:List Bool) (i:Int) (v:Bool):List Bool:=l.set i.toNat v
theorem YL (l:List Bool):(bools l).length=l.length:=by simp[bools]
theorem aRy (l:List Bool) (i:Int) (v:Bool):(bools l).set i.toNat (.bool v)=bools (qW l i v):=by simp[bools,qW,List.map_set]
theorem bAt {l:List Bool} {i:Int} (h0:0<=i) (h:i<l.length):(bools l)[i.toNat]? =some (.bool (rdb l i)):=by
 have hl:i.toNat<l.length:=G
 simp[bools,rdb,ai,av hl]
theorem aOs (m:Nat) (x:Bool):List.replicate m (Value.bool x)=bools (List.replicate m x):=by simp[bools]
theorem mI (l:List Bool) (i:Int) (v:Bool):(qW l i v).length=l.length:=by simp[qW]
theorem zH {l:List Bool} {i j:Int} {v:Bool} (h0:0<=i) (h:i<l.length) (j0:0<=j):rdb (qW l i v) j=if j=i then v else rdb l j:=by
 unfold rdb qW;rw[ai,xz,ai];by_cases e:j=i
 ·subst e;rw[dm rfl,dm G,dm rfl];rfl
 ·rw[df G,df e]
theorem EC (m:Nat) (i:Int):rdb (List.replicate m false) i=false:=by
 unfold rdb;rw[ai,zf];split<;>rfl
theorem aRz {l m:List Bool} (hl:l.length=m.length) (h: ∀i:Int,0<=i->i<l.length->rdb l i=rdb m i):l=m:=by
 apply ul hl;intro i h1 h2;have:=h i G G;simpa [rdb,ai,av h1,av h2] using this
section
variable {P:Program} {n:Nd} {B:Nat} {w0:World} {L:Env} {R:List Row} {ty:TypeId}
theorem Rd.lenB {w:World} {A:AF} {m c:Nat} {l:List Bool} (h:Rd w A m c 1 (bools l)):m=l.length:=by
 have:=h.len;rw[YL] at this;omega
theorem CJ {x:Operand} {t:TypeId} {d:TypeDesc} {A:AF} {m c:Nat} {l:List Bool} {i:Int} (hu:P.underlying t=some d) (hd:JK d=false) (hx:ev L x=some (.pointer (pat A i.toNat))) (hr:RdC B w0 R A m c 1 (bools l)) (h0:0<=i:=by omega) (h1:i<m:=by omega):
  Yl P n B w0 (.load t x) ty L R (.bool (decide (rdb l i=true))):=by
 intro a w o ho Mw hs hw;have hl:=(hr w hw).lenB;rw[show decide (rdb l i=true)=rdb l i by cases rdb l i<;>rfl];exact kH hu hd hx rfl hr (bAt h0 G) a w o ho Mw hs hw
theorem vC {x y:Operand} {t e:TypeId} {j:Int} {v:Bool} {A:AF} {m c:Nat} {l:List Bool} (i:Nat) (hi:R[i]? =some ⟨e,1,A,m,c,bools l,false⟩) (gd:(P.info? t).map (·.size)=some 1) (hx:ev L x=some (.pointer (pat A j.toNat))) (hy:ev L y=some (.bool v)) (h0:0<=j:=by omega) (h1:j<m:=by omega):
  Ac P n B w0 (.store t x y) ty L R (λ_ R'=>R'=R.set i ⟨e,1,A,m,c,bools (qW l j v),false⟩):=by
 intro a w o K Q ho Mw hs hp hk;have fk:=Row.lies_w (hp.own _ (gq hi)) rfl;have gg:=Row.rd (hp.own _ (gq hi));have hl:=gg.len
 obtain⟨g,hA⟩: ∃g,A=some ⟨g,0,none⟩:=by
  rcases fk.2 with⟨_,hn⟩|⟨g,cap,cur,hv,_⟩
  ·simp only at hn;omega
  ·simp only[ko] at hv;exact⟨g,hv.1⟩
 have:=YR (P:=P) (n:=n) (B:=B) (w0:=w0) (ty:=ty) i hi rfl hA gd hx rfl hy rfl rfl (by rw[hl];simp only;omega);simp only[aRy] at this;exact this a w o K Q ho Mw hs hp hk
theorem MJ {x y:Operand} {t e:TypeId} {bytes:Nat} {m:Int} (ht:P.underlying t=some (.slice e)) (ee:(P.info? e).map (λi=>(i.zero,i.size,i.bytes))=some (some (.bool false),1,bytes))
  (hx:ev L x=some (.int .i64 m)) (hy:ev L y=some (.int .i64 m)) (h0:0<=m) (hm:m*bytes<=281474976710656) (No:m<=9223372036854775807):
  Ac P n B w0 (.makeSlice t x y) ty L R (λv R'=> ∃g,v= .slice (some ⟨g,0,none⟩) m.toNat m.toNat/\R'=⟨e,1,some ⟨g,0,none⟩,m.toNat,m.toNat,bools (List.replicate m.toNat false),false⟩::R):=by
 have:=aMq (P:=P) (n:=n) (B:=B) (w0:=w0) (L:=L) (R:=R) (ty:=ty) ht ee rfl hx hy h0 hm No;simpa only[aOs] using this
end
section
variable {P:Program} {n:Nd} {B:Nat} {w0:World}
theorem vK {σ0 σ1 σ2 σ3 σ4 σ5 σ6 σ7:Type} {c:Code} {Q:gF} {L:Env} {R:List Row} (Lx:σ0->σ1->σ2->σ3->σ4->σ5->σ6->σ7->Env) (Rx:σ0->σ1->σ2->σ3->σ4->σ5->σ6->σ7->List Row) (J:σ0->σ1->σ2->σ3->σ4->σ5->σ6->σ7->Prop) (μ:σ0->σ1->σ2->σ3->σ4->σ5->σ6->σ7->Nat)
  (h0: ∃x0 x1 x2 x3 x4 x5 x6 x7,J x0 x1 x2 x3 x4 x5 x6 x7/\Sub (Lx x0 x1 x2 x3 x4 x5 x6 x7) L/\ ∀w,Hp B w0 w R->Hp B w0 w (Rx x0 x1 x2 x3 x4 x5 x6 x7))
  (round: ∀x0 x1 x2 x3 x4 x5 x6 x7,J x0 x1 x2 x3 x4 x5 x6 x7->W P n B w0 c {Q with nrm:=λL' R'=> ∃y0 y1 y2 y3 y4 y5 y6 y7,J y0 y1 y2 y3 y4 y5 y6 y7/\μ y0 y1 y2 y3 y4 y5 y6 y7<μ x0 x1 x2 x3 x4 x5 x6 x7/\Sub (Lx y0 y1 y2 y3 y4 y5 y6 y7) L'/\ ∀w,Hp B w0 w R'->Hp B w0 w (Rx y0 y1 y2 y3 y4 y5 y6 y7)} (Lx x0 x1 x2 x3 x4 x5 x6 x7) (Rx x0 x1 x2 x3 x4 x5 x6 x7)):W P n B w0 (.loop c) Q L R:=by
 obtain⟨x0,x1,x2,x3,x4,x5,x6,x7,h1,h2,h3⟩:=h0;refine qN (σ:=σ0 × σ1 × σ2 × σ3 × σ4 × σ5 × σ6 × σ7) (λp=>Lx p.1 p.2.1 p.2.2.1 p.2.2.2.1 p.2.2.2.2.1 p.2.2.2.2.2.1 p.2.2.2.2.2.2.1 p.2.2.2.2.2.2.2) (λp=>Rx p.1 p.2.1 p.2.2.1 p.2.2.2.1 p.2.2.2.2.1 p.2.2.2.2.2.1 p.2.2.2.2.2.2.1 p.2.2.2.2.2.2.2) (λp=>J p.1 p.2.1 p.2.2.1 p.2.2.2.1 p.2.2.2.2.1 p.2.2.2.2.2.1 p.2.2.2.2.2.2.1 p.2.2.2.2.2.2.2) (λp=>μ p.1 p.2.1 p.2.2.1 p.2.2.2.1 p.2.2.2.2.1 p.2.2.2.2.2.1 p.2.2.2.2.2.2.1 p.2.2.2.2.2.2.2) ⟨(x0,x1,x2,x3,x4,x5,x6,x7),h1,h2,h3⟩ λp hp=>jA (round p.1 p.2.1 p.2.2.1 p.2.2.2.1 p.2.2.2.2.1 p.2.2.2.2.2.1 p.2.2.2.2.2.2.1 p.2.2.2.2.2.2.2 hp) ?_ (λ_ _ h=>h) (λ_ _ _ h=>h);rintro L' R' ⟨y0,y1,y2,y3,y4,y5,y6,y7,g1,g2,g3,g4⟩;exact⟨(y0,y1,y2,y3,y4,y5,y6,y7),⟨g1,g2⟩,g3,g4⟩
theorem WG {σ0 σ1 σ2 σ3 σ4 σ5 σ6 σ7 σ8:Type} {c:Code} {Q:gF} {L:Env} {R:List Row} (Lx:σ0->σ1->σ2->σ3->σ4->σ5->σ6->σ7->σ8->Env) (Rx:σ0->σ1->σ2->σ3->σ4->σ5->σ6->σ7->σ8->List Row) (J:σ0->σ1->σ2->σ3->σ4->σ5->σ6->σ7->σ8->Prop) (μ:σ0->σ1->σ2->σ3->σ4->σ5->σ6->σ7->σ8->Nat)
  (h0: ∃x0 x1 x2 x3 x4 x5 x6 x7 x8,J x0 x1 x2 x3 x4 x5 x6 x7 x8/\Sub (Lx x0 x1 x2 x3 x4 x5 x6 x7 x8) L/\ ∀w,Hp B w0 w R->Hp B w0 w (Rx x0 x1 x2 x3 x4 x5 x6 x7 x8))
  (round: ∀x0 x1 x2 x3 x4 x5 x6 x7 x8,J x0 x1 x2 x3 x4 x5 x6 x7 x8->W P n B w0 c {Q with nrm:=λL' R'=> ∃y0 y1 y2 y3 y4 y5 y6 y7 y8,J y0 y1 y2 y3 y4 y5 y6 y7 y8/\μ y0 y1 y2 y3 y4 y5 y6 y7 y8<μ x0 x1 x2 x3 x4 x5 x6 x7 x8/\Sub (Lx y0 y1 y2 y3 y4 y5 y6 y7 y8) L'/\ ∀w,Hp B w0 w R'->Hp B w0 w (Rx y0 y1 y2 y3 y4 y5 y6 y7 y8)} (Lx x0 x1 x2 x3 x4 x5 x6 x7 x8) (Rx x0 x1 x2 x3 x4 x5 x6 x7 x8)):W P n B w0 (.loop c) Q L R:=by
 obtain⟨x0,x1,x2,x3,x4,x5,x6,x7,x8,h1,h2,h3⟩:=h0;refine qN (σ:=σ0 × σ1 × σ2 × σ3 × σ4 × σ5 × σ6 × σ7 × σ8) (λp=>Lx p.1 p.2.1 p.2.2.1 p.2.2.2.1 p.2.2.2.2.1 p.2.2.2.2.2.1 p.2.2.2.2.2.2.1 p.2.2.2.2.2.2.2.1 p.2.2.2.2.2.2.2.2) (λp=>Rx p.1 p.2.1 p.2.2.1 p.2.2.2.1 p.2.2.2.2.1 p.2.2.2.2.2.1 p.2.2.2.2.2.2.1 p.2.2.2.2.2.2.2.1 p.2.2.2.2.2.2.2.2) (λp=>J p.1 p.2.1 p.2.2.1 p.2.2.2.1 p.2.2.2.2.1 p.2.2.2.2.2.1 p.2.2.2.2.2.2.1 p.2.2.2.2.2.2.2.1 p.2.2.2.2.2.2.2.2) (λp=>μ p.1 p.2.1 p.2.2.1 p.2.2.2.1 p.2.2.2.2.1 p.2.2.2.2.2.1 p.2.2.2.2.2.2.1 p.2.2.2.2.2.2.2.1 p.2.2.2.2.2.2.2.2) ⟨(x0,x1,x2,x3,x4,x5,x6,x7,x8),h1,h2,h3⟩ λp hp=>jA (round p.1 p.2.1 p.2.2.1 p.2.2.2.1 p.2.2.2.2.1 p.2.2.2.2.2.1 p.2.2.2.2.2.2.1 p.2.2.2.2.2.2.2.1 p.2.2.2.2.2.2.2.2 hp) ?_ (λ_ _ h=>h) (λ_ _ _ h=>h);rintro L' R' ⟨y0,y1,y2,y3,y4,y5,y6,y7,y8,g1,g2,g3,g4⟩;exact⟨(y0,y1,y2,y3,y4,y5,y6,y7,y8),⟨g1,g2⟩,g3,g4⟩
theorem CV {σ0 σ1 σ2 σ3 σ4 σ5 σ6 σ7 σ8 σ9:Type} {c:Code} {Q:gF} {L:Env} {R:List Row} (Lx:σ0->σ1->σ2->σ3->σ4->σ5->σ6->σ7->σ8->σ9->Env) (Rx:σ0->σ1->σ2->σ3->σ4->σ5->σ6->σ7->σ8->σ9->List Row) (J:σ0->σ1->σ2->σ3->σ4->σ5->σ6->σ7->σ8->σ9->Prop) (μ:σ0->σ1->σ2->σ3->σ4->σ5->σ6->σ7->σ8->σ9->Nat)
  (h0: ∃x0 x1 x2 x3 x4 x5 x6 x7 x8 x9,J x0 x1 x2 x3 x4 x5 x6 x7 x8 x9/\Sub (Lx x0 x1 x2 x3 x4 x5 x6 x7 x8 x9) L/\ ∀w,Hp B w0 w R->Hp B w0 w (Rx x0 x1 x2 x3 x4 x5 x6 x7 x8 x9))
  (round: ∀x0 x1 x2 x3 x4 x5 x6 x7 x8 x9,J x0 x1 x2 x3 x4 x5 x6 x7 x8 x9->W P n B w0 c {Q with nrm:=λL' R'=> ∃y0 y1 y2 y3 y4 y5 y6 y7 y8 y9,J y0 y1 y2 y3 y4 y5 y6 y7 y8 y9/\μ y0 y1 y2 y3 y4 y5 y6 y7 y8 y9<μ x0 x1 x2 x3 x4 x5 x6 x7 x8 x9/\Sub (Lx y0 y1 y2 y3 y4 y5 y6 y7 y8 y9) L'/\ ∀w,Hp B w0 w R'->Hp B w0 w (Rx y0 y1 y2 y3 y4 y5 y6 y7 y8 y9)} (Lx x0 x1 x2 x3 x4 x5 x6 x7 x8 x9) (Rx x0 x1 x2 x3 x4 x5 x6 x7 x8 x9)):W P n B w0 (.loop c) Q L R:=by
 obtain⟨x0,x1,x2,x3,x4,x5,x6,x7,x8,x9,h1,h2,h3⟩:=h0;refine qN (σ:=σ0 × σ1 × σ2 × σ3 × σ4 × σ5 × σ6 × σ7 × σ8 × σ9) (λp=>Lx p.1 p.2.1 p.2.2.1 p.2.2.2.1 p.2.2.2.2.1 p.2.2.2.2.2.1 p.2.2.2.2.2.2.1 p.2.2.2.2.2.2.2.1 p.2.2.2.2.2.2.2.2.1 p.2.2.2.2.2.2.2.2.2) (λp=>Rx p.1 p.2.1 p.2.2.1 p.2.2.2.1 p.2.2.2.2.1 p.2.2.2.2.2.1 p.2.2.2.2.2.2.1 p.2.2.2.2.2.2.2.1 p.2.2.2.2.2.2.2.2.1 p.2.2.2.2.2.2.2.2.2) (λp=>J p.1 p.2.1 p.2.2.1 p.2.2.2.1 p.2.2.2.2.1 p.2.2.2.2.2.1 p.2.2.2.2.2.2.1 p.2.2.2.2.2.2.2.1 p.2.2.2.2.2.2.2.2.1 p.2.2.2.2.2.2.2.2.2) (λp=>μ p.1 p.2.1 p.2.2.1 p.2.2.2.1 p.2.2.2.2.1 p.2.2.2.2.2.1 p.2.2.2.2.2.2.1 p.2.2.2.2.2.2.2.1 p.2.2.2.2.2.2.2.2.1 p.2.2.2.2.2.2.2.2.2) ⟨(x0,x1,x2,x3,x4,x5,x6,x7,x8,x9),h1,h2,h3⟩ λp hp=>jA (round p.1 p.2.1 p.2.2.1 p.2.2.2.1 p.2.2.2.2.1 p.2.2.2.2.2.1 p.2.2.2.2.2.2.1 p.2.2.2.2.2.2.2.1 p.2.2.2.2.2.2.2.2.1 p.2.2.2.2.2.2.2.2.2 hp) ?_ (λ_ _ h=>h) (λ_ _ _ h=>h);rintro L' R' ⟨y0,y1,y2,y3,y4,y5,y6,y7,y8,y9,g1,g2,g3,g4⟩;exact⟨(y0,y1,y2,y3,y4,y5,y6,y7,y8,y9),⟨g1,g2⟩,g3,g4⟩
theorem aTe {σ0 σ1 σ2 σ3 σ4 σ5 σ6 σ7 σ8 σ9 σ10 σ11 σ12 σ13:Type} {c:Code} {Q:gF} {L:Env} {R:List Row} (Lx:σ0->σ1->σ2->σ3->σ4->σ5->σ6->σ7->σ8->σ9->σ10->σ11->σ12->σ13->Env) (Rx:σ0->σ1->σ2->σ3->σ4->σ5->σ6->σ7->σ8->σ9->σ10->σ11->σ12->σ13->List Row) (J:σ0->σ1->σ2->σ3->σ4->σ5->σ6->σ7->σ8->σ9->σ10->σ11->σ12->σ13->Prop) (μ:σ0->σ1->σ2->σ3->σ4->σ5->σ6->σ7->σ8->σ9->σ10->σ11->σ12->σ13->Nat)
  (h0: ∃x0 x1 x2 x3 x4 x5 x6 x7 x8 x9 d4 d5 d6 d7,J x0 x1 x2 x3 x4 x5 x6 x7 x8 x9 d4 d5 d6 d7/\Sub (Lx x0 x1 x2 x3 x4 x5 x6 x7 x8 x9 d4 d5 d6 d7) L/\ ∀w,Hp B w0 w R->Hp B w0 w (Rx x0 x1 x2 x3 x4 x5 x6 x7 x8 x9 d4 d5 d6 d7))
  (round: ∀x0 x1 x2 x3 x4 x5 x6 x7 x8 x9 d4 d5 d6 d7,J x0 x1 x2 x3 x4 x5 x6 x7 x8 x9 d4 d5 d6 d7->W P n B w0 c {Q with nrm:=λL' R'=> ∃y0 y1 y2 y3 y4 y5 y6 y7 y8 y9 Hh Hi Hj Hk,J y0 y1 y2 y3 y4 y5 y6 y7 y8 y9 Hh Hi Hj Hk/\μ y0 y1 y2 y3 y4 y5 y6 y7 y8 y9 Hh Hi Hj Hk<μ x0 x1 x2 x3 x4 x5 x6 x7 x8 x9 d4 d5 d6 d7/\Sub (Lx y0 y1 y2 y3 y4 y5 y6 y7 y8 y9 Hh Hi Hj Hk) L'/\ ∀w,Hp B w0 w R'->Hp B w0 w (Rx y0 y1 y2 y3 y4 y5 y6 y7 y8 y9 Hh Hi Hj Hk)} (Lx x0 x1 x2 x3 x4 x5 x6 x7 x8 x9 d4 d5 d6 d7) (Rx x0 x1 x2 x3 x4 x5 x6 x7 x8 x9 d4 d5 d6 d7)):W P n B w0 (.loop c) Q L R:=by
 obtain⟨x0,x1,x2,x3,x4,x5,x6,x7,x8,x9,d4,d5,d6,d7,h1,h2,h3⟩:=h0;refine qN (σ:=σ0 × σ1 × σ2 × σ3 × σ4 × σ5 × σ6 × σ7 × σ8 × σ9 × σ10 × σ11 × σ12 × σ13) (λp=>Lx p.1 p.2.1 p.2.2.1 p.2.2.2.1 p.2.2.2.2.1 p.2.2.2.2.2.1 p.2.2.2.2.2.2.1 p.2.2.2.2.2.2.2.1 p.2.2.2.2.2.2.2.2.1 p.2.2.2.2.2.2.2.2.2.1 p.2.2.2.2.2.2.2.2.2.2.1 p.2.2.2.2.2.2.2.2.2.2.2.1 p.2.2.2.2.2.2.2.2.2.2.2.2.1 p.2.2.2.2.2.2.2.2.2.2.2.2.2) (λp=>Rx p.1 p.2.1 p.2.2.1 p.2.2.2.1 p.2.2.2.2.1 p.2.2.2.2.2.1 p.2.2.2.2.2.2.1 p.2.2.2.2.2.2.2.1 p.2.2.2.2.2.2.2.2.1 p.2.2.2.2.2.2.2.2.2.1 p.2.2.2.2.2.2.2.2.2.2.1 p.2.2.2.2.2.2.2.2.2.2.2.1 p.2.2.2.2.2.2.2.2.2.2.2.2.1 p.2.2.2.2.2.2.2.2.2.2.2.2.2) (λp=>J p.1 p.2.1 p.2.2.1 p.2.2.2.1 p.2.2.2.2.1 p.2.2.2.2.2.1 p.2.2.2.2.2.2.1 p.2.2.2.2.2.2.2.1 p.2.2.2.2.2.2.2.2.1 p.2.2.2.2.2.2.2.2.2.1 p.2.2.2.2.2.2.2.2.2.2.1 p.2.2.2.2.2.2.2.2.2.2.2.1 p.2.2.2.2.2.2.2.2.2.2.2.2.1 p.2.2.2.2.2.2.2.2.2.2.2.2.2) (λp=>μ p.1 p.2.1 p.2.2.1 p.2.2.2.1 p.2.2.2.2.1 p.2.2.2.2.2.1 p.2.2.2.2.2.2.1 p.2.2.2.2.2.2.2.1 p.2.2.2.2.2.2.2.2.1 p.2.2.2.2.2.2.2.2.2.1 p.2.2.2.2.2.2.2.2.2.2.1 p.2.2.2.2.2.2.2.2.2.2.2.1 p.2.2.2.2.2.2.2.2.2.2.2.2.1 p.2.2.2.2.2.2.2.2.2.2.2.2.2) ⟨(x0,x1,x2,x3,x4,x5,x6,x7,x8,x9,d4,d5,d6,d7),h1,h2,h3⟩ λp hp=>jA (round p.1 p.2.1 p.2.2.1 p.2.2.2.1 p.2.2.2.2.1 p.2.2.2.2.2.1 p.2.2.2.2.2.2.1 p.2.2.2.2.2.2.2.1 p.2.2.2.2.2.2.2.2.1 p.2.2.2.2.2.2.2.2.2.1 p.2.2.2.2.2.2.2.2.2.2.1 p.2.2.2.2.2.2.2.2.2.2.2.1 p.2.2.2.2.2.2.2.2.2.2.2.2.1 p.2.2.2.2.2.2.2.2.2.2.2.2.2 hp) ?_ (λ_ _ h=>h) (λ_ _ _ h=>h);rintro L' R' ⟨y0,y1,y2,y3,y4,y5,y6,y7,y8,y9,Hh,Hi,Hj,Hk,g1,g2,g3,g4⟩;exact⟨(y0,y1,y2,y3,y4,y5,y6,y7,y8,y9,Hh,Hi,Hj,Hk),⟨g1,g2⟩,g3,g4⟩
end
section
variable {P:Program} {n:Nd} {B:Nat} {w0:World} {L:Env} {R:List Row} {ty:TypeId}
end
end Go.Eng
namespace Go.Eng
open Go Go.RowKit Go.Proofs
theorem SlW.elim {C:Prop} {k:IntKind} {w:World} {vals:AG} {ls:AD} (h:SlW k w vals ls) {i:Int} (h0:0<=i) (h1:i<ls.length) (q: ∀(A:AF) (c:Nat),vals[i.toNat]? =some (Value.slice A (rdl ls i).length c)->Rd w A (rdl ls i).length c 1 (ints k (rdl ls i))->(∀x∈rdl ls i,(Lit.int k x).wf=true)->(rdl ls i).length<=140737488355327->C):C:=by
 obtain⟨A,c,a,b,d,e⟩:=h.at h0 h1;exact q A c a b d e
section
variable {P:Program} {n:Nd} {B:Nat} {w0:World} {L:Env} {R:List Row} {ty:TypeId}
theorem CG {x ix:Operand} {t e:TypeId} {k:IntKind} {A:AF} {m c q:Nat} {i j:Int} {l:AE} (ht:P.underlying t=some (.array 2 e)) (hi:(P.info? e).map (·.size)=some 1) (hx:ev L x=some (.pointer (pat A (i.toNat*2)))) (ti:ev L ix=some (.int k j))
  (hr:RdC B w0 R A m c 2 (prs l)) (h0:0<=i) (h1:i<l.length) (hj:j.toNat=q) (tj:0<=j) (w4:j<2):Yl P n B w0 (.indexAddr t x ix) ty L R (.pointer (pat A (i.toNat*2+q))):=by
 have:=BB (P:=P) (n:=n) (B:=B) (w0:=w0) (ty:=ty) ht hi hx rfl ti hr (by rw[jU];omega) tj w4;rwa[qp,hj] at this
theorem bDt {l:AE} {i:Int} (h0:0<=i) (h:i<l.length):(prs l)[i.toNat*2+0]? =some (.int .i64 (rdp l i).1):=by
 rw[LU _ _ G];rw[dm G,show(i.toNat*2+0)/2=i.toNat by omega];rfl
theorem bDr {l:AE} {i:Int} (h0:0<=i) (h:i<l.length):(prs l)[i.toNat*2+1]? =some (.int .i64 (rdp l i).2):=by
 rw[LU _ _ G];rw[df G,show(i.toNat*2+1)/2=i.toNat by omega];rfl
theorem aSu {x:Operand} {t:TypeId} {d:TypeDesc} {A:AF} {m c:Nat} {l:AE} {i:Int} (hu:P.underlying t=some d) (hd:JK d=false) (hx:ev L x=some (.pointer (pat A (i.toNat*2+0)))) (hr:RdC B w0 R A m c 2 (prs l)) (h0:0<=i:=by omega) (h1:i<l.length:=by omega):
  Yl P n B w0 (.load t x) ty L R (.int .i64 (rdp l i).1):=kH hu hd hx rfl hr (bDt h0 h1)
theorem aSt {x:Operand} {t:TypeId} {d:TypeDesc} {A:AF} {m c:Nat} {l:AE} {i:Int} (hu:P.underlying t=some d) (hd:JK d=false) (hx:ev L x=some (.pointer (pat A (i.toNat*2+1)))) (hr:RdC B w0 R A m c 2 (prs l)) (h0:0<=i) (h1:i<l.length):
  Yl P n B w0 (.load t x) ty L R (.int .i64 (rdp l i).2):=kH hu hd hx rfl hr (bDr h0 h1)
end
section
variable {P:Program} {n:Nd} {B:Nat} {w0:World} {ops:Array Oper} {K:Env->List Row->Prop} {L:Env} {R:List Row} {op:Op} {ty:TypeId} {pos:String} {ph:Array Edge}
def aMs (P:Program) (n:Nd) (B:Nat) (w0:World) (ops:Array Oper) (K:Env->List Row->Prop) (bo:Nat) (ab:AI) (L:Env) (R:List Row) (i:Nat):Prop:=
 ∀a w (Q:Exit->Act->World->Prop),Sat n L a->Hp B w0 w R->(∀c a w,¬Q (.panic c) a w)->(∀a' w' L' R',Sat n L' a'->Hp B w0 w' R'->K L' R'->Q .normal a' w')->
  wpOp P ops Q i (λa' w'=> ∃S':World->Prop,S' w'/\(RD ops ab i=true\/ ∀x,S' x->Hp B w0 x R)/\wY P ops Q bo S' (ab.setIfInBounds i true) a' w') a w
theorem GU {bo:Nat} {ab:AI} (i j:Nat) (hr:Region.ready .any ops ab=[i,j]) (hi:aMs P n B w0 ops K bo ab L R i) (hj:aMs P n B w0 ops K bo ab L R j):WD P n B w0 ops K (bo+1) ab L R:=by
 intro a w Q hs hp kl hq;refine⟨λh0=>absurd (hr▸h0) cD,λk hk=> ?_⟩;rw[hr] at hk;rcases jd.1 hk with rfl|hk
 ·exact hi a w Q hs hp kl hq
 ·obtain rfl:=ig.1 hk;exact hj a w Q hs hp kl hq
theorem bIz {i:Nat} {o:Oper} {Post:Value->List Row->Prop} {bo:Nat} {ab:AI} (hi:ops[i]? =some o) (hg: ∀a,Sat n L a->Region.wanted o (yielded ops a.tmps)=true) (ha:Ac P n B w0 o.op o.type L R Post)
  (hn: ∀v a,Sat n L a->Sat n (match o.dst with|some d=>(d,v)::L|none=>L) (a.put o.dst v))
  (h: ∀v R',Post v R'->(RD ops ab i=true\/ ∀w,Hp B w0 w R'->Hp B w0 w R)/\WD P n B w0 ops K bo (ab.setIfInBounds i true) (match o.dst with|some d=>(d,v)::L|none=>L) R'):aMs P n B w0 ops K bo ab L R i:=by
 intro a w Q hs hp kl hq;unfold wpOp;simp only[hi,hg a hs,Kh];refine .inl (ha a w o _ Q rfl rfl hs hp λv w' R' cr hv=> ?_);obtain⟨h1,h2⟩:=h v R' hv;exact⟨λw=>Hp B w0 w R',cr,h1,h2 _ w' Q (hn v a hs) cr kl hq⟩
theorem KN {d:Nat} {Post:Value->List Row->Prop} {bo:Nat} {ab:AI} (i:Nat) (hi:ops[i]? =some {dst:=some d,op:=op,type:=ty,pos:=pos,after:=ph,guard:=none}) (hn:Nat.blt d n=true) (ha:Ac P n B w0 op ty L R Post)
  (h: ∀v R',Post v R'->(RD ops ab i=true\/ ∀w,Hp B w0 w R'->Hp B w0 w R)/\WD P n B w0 ops K bo (ab.setIfInBounds i true) ((d,v)::L) R'):aMs P n B w0 ops K bo ab L R i:=
 bIz hi (λ_ _=>rfl) ha (λv _ hs=>hs.put hn v) h
end
end Go.Eng
namespace Go.Eng
open Go Go.RowKit
section
variable {w:World} {A:AF} {m c l h:Nat} {xs:AH}
theorem Rd.cutI {k:IntKind} (hr:Rd w A m c 1 (ints k xs)) (h1:l<=h) (h2:h<=m):Rd w (jO A l c 1) (h-l) (c-l) 1 (ints k ((xs.drop l).take (h-l))):=
 RdC.cutI (hr.c []) h1 h2 w (Hp.refl _)
theorem Rd.fromI {k:IntKind} (hr:Rd w A m c 1 (ints k xs)) (h1:l<=m):Rd w (jO A l c 1) (m-l) (c-l) 1 (ints k (xs.drop l)):=
 RdC.fromI (hr.c []) h1 w (Hp.refl _)
theorem Rd.toI {k:IntKind} (hr:Rd w A m c 1 (ints k xs)) (h2:h<=m):Rd w A h c 1 (ints k (xs.take h)):=
 RdC.toI (hr.c []) h2 w (Hp.refl _)
theorem dV {x:Int} (h:0<=x/\x<256):(Lit.int .u8 x).wf=true:=by
 have h1:IntKind.u8.min<=x:=h.1
 have h2:x<=IntKind.u8.max:=by
  have:IntKind.u8.max=255:=cC
  omega
 simp[Lit.wf,h1,h2]
theorem SlW.snoc {k:IntKind} {vals:AG} {ls:AD} {l:AH} (h:SlW k w vals ls) (hr:Rd w A m c 1 (ints k l)) (hwf: ∀x∈l,(Lit.int k x).wf=true) (hm:l.length<=140737488355327):SlW k w (vals++[.slice A m c]) (ls++[l]):=by
 obtain rfl:=hr.lenI;refine⟨by rw[ah,ah,h.1];rfl,λj hj=> ?_⟩;rcases gp j ls.length with a|a
 ·obtain ⟨A',c',h1,h2,h3,h4⟩:=h.2 j a
  have e:(ls++[l]).getD j []=ls.getD j []:=by
   rw[ai,ai,ji a]
  rw[e];exact⟨A',c',by rw[ji (by rw[h.1];exact a)];exact h1,h2,h3,h4⟩
 ·have b6:j=ls.length:=by rw[ah] at hj;simp at hj;omega
  have e:(ls++[l]).getD j []=l:=by
   rw[ai,b6,jk (ed _)];simp
  rw[e];refine⟨A,c,?_,hr,hwf,hm⟩;rw[b6,<-h.1,jk (ed _)];simp
end
section
variable {P:Program} {n:Nd} {B:Nat} {w0:World} {L:Env} {R:List Row} {ty:TypeId}
end
section
variable {P:Program} {n:Nd} {B:Nat} {w0:World} {L:Env} {R:List Row} {ty:TypeId}
def WRd (P:Program) (n:Nd) (B:Nat) (w0:World) (c:Code) (Q:gF):Nat->Env->List Row->Prop
 |0,_,_=>False
 |m+1,L,R=>W P n B w0 c {Q with nrm:=WRd P n B w0 c Q m} L R
theorem iZ {c:Code} {Q:gF} (m:Nat) (h:WRd P n B w0 c Q m L R):W P n B w0 (.loop c) Q L R:=by
 intro a w hs hp;refine wpIn_loop_rounds m ?_
 have key: ∀(m:Nat) (L:Env) (R:List Row) (a:Act) (w:World),Sat n L a->Hp B w0 w R->WRd P n B w0 c Q m L R->Code.roundsIn (NF n.rd) 0 P c (PQ n B w0 Q) m a w:=by
  intro m
  induction m with
  |zero=>intro L R a w _ _ h;exact h.elim
  |succ m ih=>
   intro L R a w hs hp h;rw[roundsIn_succ];refine Bb (h a w hs hp) ?_;intro e a' w' hq;cases e with
   |normal=>obtain⟨L',R',en,cr,hw⟩:=hq;exact ih _ _ _ _ en cr hw
   |exit id=>exact hq
   |goto l=>exact hq
   |ret=>exact hq
   |panic ch=>exact hq
   |outgrown=>exact hq
 exact key m L R a w hs hp h
theorem dN {c:Code} {Q:gF} {m:Nat} (h:W P n B w0 c {Q with nrm:=WRd P n B w0 c Q m} L R):WRd P n B w0 c Q (m+1) L R:=h
theorem bIs {t:TypeId} {x ix:Operand} {u i v:Value} (hx:ev L x=some u) (hi:ev L ix=some i) (h: ∀w,(Instr.index t u i).run P w= .ok v w):Yl P n B w0 (.index t x ix) ty L R v:=by
 intro a w o ho _ hs _;simp[execOp,ho,hs.ev hx,hs.ev hi,h]
theorem bRh {f:FuncId} {fn:Func} {c:Code} {args:AG} {R:List Row} {Post:Value->List Row->Prop} {p r2:Nat} {ty:TypeId} {d:TypeDesc} {sz:Nat} (hf:P.funcs[f]? =some fn) (hb:fn.body=some c) (hr:fn.results= #[.cell p ty, .tmp r2]) (hl:Nat.ble args.length fn.ntmps=true)
  (hu:P.underlying ty=some d) (hd:(match d with| .struct _| .array _ _=>true|_=>false)=true) (hi:(P.info? ty).map (·.size)=some sz)
  (h:W P fn.ntmps B w0 c ⟨λL R'=> ∃(g i:Nat) (r:Row),lk L p=some (.pointer (some ⟨g,0,none⟩))/\R'[i]? =some r/\r.ro=false/\r.A=some ⟨g,0,none⟩/\r.n=1/\r.c=1/\r.sz=sz/\ ∃u,lk L r2=some u/\ ∃R1,(∀w,Hp B w0 w R'->Hp B w0 w R1)/\Post (.tuple #[.agg r.xs.toArray,u]) R1,
   λL R'=> ∃(g i:Nat) (r:Row),lk L p=some (.pointer (some ⟨g,0,none⟩))/\R'[i]? =some r/\r.ro=false/\r.A=some ⟨g,0,none⟩/\r.n=1/\r.c=1/\r.sz=sz/\ ∃u,lk L r2=some u/\ ∃R1,(∀w,Hp B w0 w R'->Hp B w0 w R1)/\Post (.tuple #[.agg r.xs.toArray,u]) R1,λ_ _ _=>False⟩ (ini 0 args) R):Ct P f args.toArray B w0 R Post:=by
 intro w hw;have Sa:args.length<=fn.ntmps:=ak hl
 have fin: ∀(L':Env) (R':List Row) (a':Act) (w':World),Sat fn.ntmps L' a'->Hp B w0 w' R'->(∃(g i:Nat) (r:Row),lk L' p=some (.pointer (some ⟨g,0,none⟩))/\R'[i]? =some r/\r.ro=false/\r.A=some ⟨g,0,none⟩/\r.n=1/\r.c=1/\r.sz=sz/\ ∃u,lk L' r2=some u/\ ∃R1,(∀w,Hp B w0 w R'->Hp B w0 w R1)/\Post (.tuple #[.agg r.xs.toArray,u]) R1)->
   ∃v R1,(results fn a'.tmps).run P w'= .ok v w'/\Hp B w0 w' R1/\Post v R1:=by
  rintro L' R' a' w' en cr ⟨g,i,r,h1,h2,h3,h4,h5,h6,h7,u,Nq,R1,h8,h9⟩;have fk:=Row.lies_w (cr.own r (gq h2)) h3;rcases fk.2 with⟨hn,_⟩|⟨g',cap,cur,hv,_,hg,_,_,jp,ht⟩
  ·rw[h4] at hn;cases hn
  ·rw [h4] at hv;simp only[ko,mr,Am,Aj,zw] at hv;obtain⟨rfl,rfl⟩:=hv;rw[h5,h7,Ah] at ht;rw[h6,h7,Ah] at jp
   have e:cur=r.xs.toArray:=by
    rw[<-ht,bg (by rw[jq];omega)]
   have oa:a'.tmps[p]?.getD undef= .pointer (some ⟨g,0,none⟩):=by have:=en.getD h1;simpa using this
   have hu3:=en.val r2 u Nq
   have kx:(results fn a'.tmps).run P w'= .ok (.tuple #[.agg cur,u]) w':=by
    simp[results,hr,oa,hu3,asAddr,Kl w' g r.e ty cur (0,0) d hg hu hd (by rw[hi,jp])]
   refine⟨_,R1,kx,h8 _ cr,?_⟩;rw[e];exact h9
 refine calls_of_wp hf hb (wp_mono (wpIn_wide.1 (h _ w ⟨cH,rfl,λt v ht=> ?_⟩ hw)) ?_)
 ·obtain ⟨_,h2⟩:=XN args 0 t v ht;simp only[yg] at h2;have br:=(fw.1 h2).1;rw[<-h2];simp[zx,br]
 ·intro e a' w' hq;cases e with
  |normal=>
   obtain⟨L',R',en,cr,hx⟩:=hq;obtain⟨v,R1,kx,hh,mn⟩:=fin L' R' _ _ en cr hx;exact⟨en.defers,v,kx,v,R1,rfl,hh,mn⟩
  |ret=>
   obtain⟨L',R',en,cr,hx⟩:=hq;obtain⟨v,R1,kx,hh,mn⟩:=fin L' R' _ _ en cr hx;exact⟨en.defers,v,kx,v,R1,rfl,hh,mn⟩
  |exit id=>obtain⟨_,_,_,_,h⟩:=hq;exact h.elim
  |goto l=>exact hq
  |panic ch=>exact hq.elim
  |outgrown=>exact hq.elim
end
section
variable {P:Program} {n:Nd} {B:Nat} {w0:World} {L:Env} {R:List Row} {ty:TypeId}
theorem aDd {g lo c:Nat} (h:lo<c):jO (some ⟨g,0,none⟩) lo c 1=some ⟨g,lo,none⟩:=by
 unfold jO;rw[df G,qp,kv];unfold Addr.add;split<;>simp_all
theorem YV {x y:Operand} {t t2 e:TypeId} {p:AF} {lo dl dc m c m2 c2:Nat} {A A2:AF} {k:IntKind} {l src:AH} (i:Nat) (hi:R[i]? =some ⟨e,1,A,m,c,ints k l,false⟩) (ht:P.underlying t=some (.slice e)) (gd:(P.info? e).map (·.size)=some 1)
  (hx:ev L x=some (.slice p dl dc)) (hy:ev L y=some (.slice A2 m2 c2)) (hp:p=jO A lo c 1) (hdl:dl=m-lo) (Iv:lo<m) (gg:RdC B w0 R A2 m2 c2 1 (ints k src)):
  Ac P n B w0 (.call {callee:= .builtin .copy,args:= #[x,y],argTypes:= #[t,t2]}) ty L R (λv R'=>v= .int .i64 ((min m2 (m-lo):Nat):Int)/\R'=R.set i ⟨e,1,A,m,c,ints k (l.take lo++src.take (min m2 (m-lo))++l.drop (lo+min m2 (m-lo))),false⟩):=by
 intro a w o K Q ho Mw hs hw hk;have fk:=Row.lies_w (hw.own _ (gq hi)) rfl;have o7:=gg w hw;have Tk:m2=src.length:=o7.lenI;have hl:m=l.length:=by have:=fk.1;rw[bY] at this;simp only at this;omega
 rcases fk.2 with⟨_,hn⟩|⟨g,cap,cur,hv,hb,hg,hnc,sp,jp,t8⟩
 ·simp only at hn;omega
 simp only[ko,zw] at hv;obtain⟨rfl,rfl⟩:=hv;simp only at t8 jp hnc hg hb;rw[qp] at t8 jp;have cr:p=some ⟨g,lo,none⟩:=by rw[hp];exact aDd G
 subst cr;subst hdl;obtain⟨q,hq⟩: ∃q,min m2 (m-lo)=q:=⟨_,rfl⟩;rw[hq] at hk;have Tq:Nat.min m2 (m-lo)=q:=hq;have kf:(ints k (src.take q)).length=q:=by rw[bY,ax];omega
 have hlen:(ints k l).length=m:=by rw[bY];omega
 rcases fo m2 with hz|fb
 ·have ij:q=0:=G
  have kx:=run_copy_none (P:=P) w t t2 o.type e (some ⟨g,lo,none⟩) A2 (m-lo) dc m2 c2 ht gd (by rw[hz];exact Nat.zero_min _);unfold Oper.wp execOp;simp only[ho,resolve,invoke,builtin,jw,pu,kg,um,jm,rz,hs.ev hx,hs.ev hy,kx,Oper.upon];refine hk (.int .i64 ((0:Nat):Int)) w R hw ⟨by rw[ij],?_⟩;rw[ij];simp only[zb,iw,rq,gz]
  exact(by
   apply uz;intro j;rw[xz];split
   ·rename_i e;subst e;rw[dm (fw.1 hi).1,hi]
   ·rfl)
 ·obtain ⟨a2,rfl⟩: ∃a2,A2=some a2:=by
   obtain⟨a2,h,_⟩:=o7.at_ 0 _ (av (by rw[bY];omega));exact⟨a2,h⟩
  have kx:=run_copy_row P w t t2 o.type e g lo (m-lo) dc a2 m2 c2 cur e (ints k (src.take q)) ht gd hg (by rw[kf];exact hq.symm) (λj v hv=>by
   obtain⟨b,h1,h2⟩:=o7.at_ j v (by
    rw[ints,Cu] at hv;rw[qb] at hv;split at hv
    ·exact hv
    ·cases hv)
   obtain rfl:=jg h1
   exact h2) (by rw[kf,jp];omega) (EZ k _)
  rw[kf] at kx;unfold Oper.wp execOp;simp only[ho,resolve,invoke,builtin,jw,pu,kg,um,jm,rz,hs.ev hx,hs.ev hy,kx,Oper.upon];refine hk (.int .i64 (q:Int)) _ _ ?_ ⟨rfl,rfl⟩;refine hw.upd hi (row:=some g) ⟨rfl,rfl,rfl,cD,λj _ hj=>Ki w g j _ (λe=>hj (by simp[e]))⟩ (ed _) (λj hj=>by cases hj;exact⟨_,rfl,rfl⟩) ?_ (λa' oe=> .inl ⟨a',oe,rfl⟩);unfold Row.lies;simp only;refine⟨?_, .inr ⟨g,c,_,rfl,hb,Lb w g cur _ e _ hg,hnc,sp,?_,?_⟩⟩
  ·simp only[bY,ah,ax,bn];omega
  ·simp only[qx,ah,ax,bn,jq,bY];omega
  ·simp only[qp];rw[tT,tT]
   have e1:ints k (l.take lo)=cur.toList.take lo:=by
    rw[ints,Cu];show(ints k l).take lo=_;rw[<-t8,List.take_take,Aa G]
   have e2:ints k (l.drop (lo+q))=(cur.toList.drop (lo+q)).take (m-(lo+q)):=by
    rw[ints,Jf];show(ints k l).drop (lo+q)=_;rw[<-t8,List.drop_take]
   rw[e1,e2]
   have h1:(cur.toList.take lo++ints k (src.take q)).length=lo+q:=by
    rw[ah,kf,ax,jq];omega
   rw[List.take_append,h1,bg G]
theorem bAa {A:AF} {c:Nat}:A=jO A 0 c 1:=by
 unfold jO;split
 ·rfl
 ·cases A with
  |none=>rfl
  |some a=>simp[Addr.add]
def EB (v:Int) (p N:Nat):AH:=List.replicate p v++List.replicate (N-p) 0
theorem aOr (v:Int) (N:Nat):EB v 0 N=List.replicate N 0:=by simp[EB]
theorem aVa (v:Int) (N:Nat):EB v N N=List.replicate N v:=by simp[EB]
theorem UF {v:Int} {p N:Nat}:(EB v p N).take p=List.replicate p v:=by simp[EB]
theorem UG {v:Int} {p q N:Nat} {src:AH} (h:p+q<=N) (hs:src=List.replicate q v):(EB v p N).take p++src++(EB v p N).drop (p+q)=EB v (p+q) N:=by
 subst hs;rw[UF];unfold EB;rw[List.drop_append];simp only[bz,List.drop_replicate,show p-(p+q)=0 by omega,Gr,iv,Eu];congr 2;omega
end
end Go.Eng
namespace Go.Eng
open Go Go.RowKit Go.Proofs Go.Sort
theorem PY {W w':World} (hb:Below W.heap.size W w') (hd:W.drawn<=w'.drawn): ∃q os,w'=grow (W.drewN q) os:=by
 refine⟨w'.drawn-W.drawn,w'.heap.extract W.heap.size w'.heap.size,?_⟩
 have hh:W.heap++w'.heap.extract W.heap.size w'.heap.size=w'.heap:=by
  apply Array.ext_getElem?;intro k;rw[zx];split
  ·rename_i hk;exact(hb.block k hk).symm
  ·rename_i hk;have:=hb.size;rw[Array.getElem?_extract];split
   ·congr 1;omega
   ·rename_i h2;rw[Dz G]
 obtain⟨h1,h2,h3,h4,h5⟩:=w';obtain⟨g1,g2,g3,g4,g5⟩:=W;have b1:=hb.os;have b2:=hb.tape;have b3:=hb.output;simp only at b1 b2 b3 hh hd;subst b1;subst b2;subst b3;simp only[grow,World.drewN,hh,World.mk.injEq,zw,Aj];omega
section
variable {P:Program} {B:Nat} {w0:World} {R:List Row}
def aMt (P:Program) (f g:Nat) (cb:Array Value):Prop:=
 ∀(α:Type) [Inhabited α] (enc:α->AG) (_: ∀x,(enc x).length=2) (_: ∀x,∀v∈enc x,v.oneCell'=true) (cf:α->α->Int) (_:SWO (ltOf cf)) (fa off cap:Nat) (d:Array α) (w:World)
  (_:CmpLays P g cb enc 2 cf fa off d.size w) (_:HoldsK enc 2 w fa off d) (_:fa<w.heap.size) (_:d.size<4611686018427387904),
  Calls P f #[.slice (some ⟨fa,off,none⟩) d.size cap, .func (.func g) #[] cb] w λe w'=>e= .returned (.tuple #[])/\ ∃d' n os,PermIn 0 d.size d d'/\SortedIn (ltOf cf) 0 d.size d'/\w'=sortWorldK enc 2 w fa off n d' os
theorem Hp.but {w W:World} (h:Hp B w0 w R) {i:Nat} {r:Row} (hi:R[i]? =some r) (ho:W.os=w.os) (ht:W.tape=w.tape) (hu:W.output=w.output) (hd:w.drawn<=W.drawn) (hs:w.heap.size<=W.heap.size)
  (hk: ∀k,k<w.heap.size->(∀a,r.A=some a->a.block≠k)->W.heap[k]? =w.heap[k]?):Hp B w0 W (R.eraseIdx i):=by
 have hr:r∈R:=gq hi;refine⟨⟨ho.trans h.below.os,ht.trans h.below.tape,hu.trans h.below.output,qm h.below.size hs,λk hkB=> ?_⟩,qm h.base hs,λq hq=> ?_,h.apart.sublist (List.eraseIdx_sublist _ _),h.late.trans ⟨hd,λk o po hc=> ?_⟩⟩
 ·rw[hk k (Nat.lt_of_lt_of_le hkB h.base) (λa ha=>by have:=(Row.lies_lt (h.own r hr) a ha).1;omega),h.below.block k hkB]
 ·obtain ⟨j,hj⟩:=List.mem_iff_getElem?.1 hq
  obtain⟨j',b6,cg⟩: ∃j',R[j']? =some q/\j'≠i:=by
   rw[List.getElem?_eraseIdx] at hj;split at hj
   ·exact⟨j,hj,G⟩
   ·exact⟨j+1,hj,G⟩
  refine Row.lies_of_block (h.own q (gq b6)) λa ha=>hk a.block (Row.lies_lt (h.own q (gq b6)) a ha).2 λa' oe=> ?_;have Fm:=(fw.1 b6).1;have Wd:=(fw.1 b6).2;have hil:=(fw.1 hi).1;have o6:=(fw.1 hi).2;rcases Dk cg with br|br
  ·have:=dz.1 h.apart j' i Fm hil br;rw[Wd,o6] at this;exact λe=>this a a' ha oe e.symm
  ·have:=dz.1 h.apart i j' hil Fm br;rw[Wd,o6] at this;exact this a' a oe ha
 ·rw [hk k (gu.1 po).1 λa ha e=> ?_]
  ·exact po
  ·subst e;obtain⟨cs,e',fr,bx⟩:=Row.lies_cells (h.own r hr) ha;rw[bx] at po;cases po;cases hc
theorem aFl {f g:Nat} {cb:Array Value} (Vc:aMt P f g cb) {T m c:Nat} {A:AF} {l:AE} (i:Nat) (hi:R[i]? =some ⟨T,2,A,m,c,prs l,false⟩) (cg:l≠[]) (hsz:l.length<4611686018427387904) (cmp:Int × Int->Int × Int->Int) (hO:SWO (ltOf cmp))
  (Lq: ∀W,Hp B w0 W (R.eraseIdx i)-> ∀x∈l,∀y∈l,
   Ct P g (#[.agg #[.int .i64 x.1, .int .i64 x.2], .agg #[.int .i64 y.1, .int .i64 y.2]]++cb) W.heap.size W [] (λv _=>v= .int .i64 (cmp x y))):
  Ct P f #[.slice A m c, .func (.func g) #[] cb] B w0 R (λv R'=>v= .tuple #[]/\ ∃l',l'.Perm l/\l'.Pairwise (λx y=> ¬cmp y x<0)/\R'=R.set i ⟨T,2,A,m,c,prs l',false⟩):=by
 intro w hw;have fk:=Row.lies_w (hw.own _ (gq hi)) rfl;have gg:=Row.rd (hw.own _ (gq hi))
 have hm:m=l.length:=by
  have:=gg.len;rw[jU] at this;simp only at this;omega
 have fb:0<l.length:=List.length_pos_iff.2 cg;rcases fk.2 with⟨_,hn⟩|⟨fa,cap,cur,hv,hb,hg,hnc,sp,jp,ht⟩
 ·simp only at hn;omega
 simp only[ko,zw] at hv;obtain⟨rfl,rfl⟩:=hv;simp only at ht jp hg hnc
 haveI:Inhabited {p:Int × Int//p∈l}:=⟨⟨l[0],lu _⟩⟩
 let d:Array {p:Int × Int//p∈l}:=l.attach.toArray
 have xb:d.size=l.length:=by simp[d]
 have Qa:d.toList.map Subtype.val=l:=Bo l;have br:fa<w.heap.size:=(gu.1 hg).1
 have hH:HoldsK encP 2 w fa 0 d:=by
  intro j hj
  have b6:j<l.length*2:=by
   have:j<(flatK encP 2 d).size:=hj;rw[size_flatK,xb] at this;exact this
  have hf:=VD d;rw[Qa] at hf
  have e:(prs l)[j]? =some ((flatK encP 2 d)[j]!):=by
   rw[<-hf,qz,pq hj,si _ j hj]
  refine⟨?_,?_⟩
  ·rw [ny];exact hw.cellAt i hi rfl e
  ·exact hw.openAt i (0+j) hi rfl rfl
 have vb:CmpLays P g cb (encP (l:=l)) 2 (λx y=>cmp x.1 y.1) fa 0 d.size w:=by
  intro m' os dk Rp x y
  have hW:w.heap.size<=(sortWorldK (encP (l:=l)) 2 w fa 0 m' dk os).heap.size:=by
   unfold sortWorldK;rw[size_grow];unfold putRowK;rw[Go.Sort.size_putRow];exact Cb _ _
  have hk: ∀k,k<w.heap.size->(∀a:Addr,some (⟨fa,0,none⟩:Addr)=some a->a.block≠k)->(sortWorldK (encP (l:=l)) 2 w fa 0 m' dk os).heap[k]? =w.heap[k]? :=by
   intro k hk cg;have Lp:fa≠k:=cg _ rfl;unfold sortWorldK;rw[heap_grow_old _ _ (by unfold putRowK;rw[Go.Sort.size_putRow];exact hk)];simp[putRowK,putRow,mapBlock,ww,Lp,Sort.ahead]
  refine(Lq _ (hw.but (W:=sortWorldK (encP (l:=l)) 2 w fa 0 m' dk os) hi rfl rfl rfl (by show w.drawn<=w.drawn+m';omega) hW hk) x.1 x.2 y.1 y.2 _ (Hp.refl _)).mono ?_;rintro e w' ⟨v,R',rfl,hh,rfl⟩;exact⟨rfl,PY hh.below hh.late.1⟩
 have Va:SWO (ltOf λ(x y: {p:Int × Int//p∈l})=>cmp x.1 y.1):=⟨λx=>hO.irrefl x.1,λx y z=>hO.trans x.1 y.1 z.1,λx y z=>hO.ntrans x.1 y.1 z.1⟩;have wb:=Vc _ encP (λ_=>rfl) (λx v hv=>by simp[encP] at hv;rcases hv with rfl|rfl<;>rfl) _ Va fa 0 c d w vb hH br (by rw[xb];exact hsz);rw[xb,<-hm] at wb;refine wb.mono ?_;rintro e w' ⟨rfl,d',n,os,⟨en,_,ov⟩,o0,rfl⟩;have m6:d'.size=l.length:=by rw[en,xb]
 refine⟨_,_,rfl,?_,rfl,d'.toList.map Subtype.val,?_,?_,rfl⟩
 ·have Lz:(sortWorldK encP 2 w fa 0 n d' os).heap[fa]? =some (.cells (putCells id 0 (flatK encP 2 d') cur) T (0,0)):=by
   unfold sortWorldK;rw[heap_grow_old _ _ (by unfold putRowK;rw[Go.Sort.size_putRow];exact br)];simp[putRowK,putRow,mapBlock,ww,Sort.ahead,hg,onCells]
  refine hw.upd hi (row:=some fa) ⟨rfl,rfl,rfl,?_,λk hk cg=> ?_⟩ ?_ (λk hk=> ?_) ?_ (λa' oe=> .inl ⟨a',oe,rfl⟩)
  ·unfold sortWorldK;rw[size_grow];unfold putRowK;rw[Go.Sort.size_putRow];exact Cb _ _
  ·have Lp:fa≠k:=λe=>cg (by rw[e]);unfold sortWorldK;rw[heap_grow_old _ _ (by unfold putRowK;rw[Go.Sort.size_putRow];exact hk)];simp[putRowK,putRow,mapBlock,ww,Lp,Sort.ahead]
  ·show w.drawn<=w.drawn+n;omega
  ·obtain rfl:=jg hk;exact⟨_,rfl,rfl⟩
  ·unfold Row.lies;simp only;refine⟨by rw[jU,bu,jq,m6,hm], .inr ⟨fa,c,_,rfl,hb,Lz,hnc,sp,?_,?_⟩⟩
   ·simp only[putCells,Array.size_mapIdx];exact jp
   ·have hf:=VD d';rw[<-hf];have Qc:(flatK encP 2 d').size=m*2:=by rw[size_flatK,m6,hm]
    apply uz;intro t;rw[qb];split
    ·rename_i yy
     have Zo:t<cur.size:=by
      have:m*2<=c*2:=vg _ hnc;omega
     rw[qz,qz,pq (by simp[putCells];exact Zo),pq (by rw[Qc];exact yy)];simp only[putCells,Fu,id];rw[dm ⟨oz _,by rw[ny,Qc];exact yy⟩,yg,si _ t (by rw[Qc];exact yy)]
    ·rename_i yy;rw[ng (by rw[jq,Qc];omega)]
 ·have e1:(d'.extract 0 m).toList=d'.toList:=by rw[show m=d'.size by omega];simp
  have e2:(d.extract 0 m).toList=d.toList:=by rw[show m=d.size by omega];simp
  rw[e1,e2] at ov;have:=ov.map Subtype.val;rwa[Qa] at this
 ·refine ik.2 (dz.2 λa b ha u6 yr=> ?_);rw[jq] at ha u6;have h1:=o0 a b (oz _) yr G;rw[si d' a ha,si d' b u6] at h1;simp only[ltOf,uh] at h1;simpa using h1
end
end Go.Eng
namespace Go.Eng
open Go Go.RowKit
section
variable {B:Nat} {w0 w w':World} {R R':List Row}
theorem Hp.allocObj (h:Hp B w0 w R) (o:Obj):Hp B w0 (w.alloc o) R:=
 h.join (Rn:=[]) ⟨(Ey _ _).alloc (ed _) _,cD,λ_ hr=>(by cases hr), .nil,Late.alloc _ _⟩
theorem Hp.putObj (h:Hp B w0 w R) {l:Nat} {o:Obj} (ho:w.heap[l]? =some o) (hn:aBl o=true) (o':Obj) (hB:B<=l) (h0:w0.heap.size<=l):Hp B w0 (w.putObj l o') R:=by
 refine⟨h.below.trans ((Ey _ _).grown (grownBy_putObj' w l o') h.base λk e=>by cases e;exact hB),by rw[World.putObj_size];exact h.base,λr hr=> ?_,h.apart,⟨h.late.1,λk q hk hc=> ?_⟩⟩
 ·refine Row.lies_of_block (h.own r hr) λa ha=>World.putObj_heap_other λe=> ?_;obtain⟨cs,e',fr,hc⟩:=Row.lies_cells (h.own r hr) ha;rw[e,ho] at hc;cases hc;cases hn
 ·rw [World.putObj_heap_other (λe=>by have:=(gu.1 hk).1;omega)];exact h.late.2 k q hk hc
theorem Hp.rebase (h:Hp B w0 w R):Hp B w w R:=⟨Ey _ _,h.base,h.own,h.apart,Late.refl _⟩
theorem Hp.comp (h:Hp B w0 w R) (h':Hp B w w' R'):Hp B w0 w' R':=⟨h.below.trans h'.below,h'.base,h'.own,h'.apart,h.late.trans h'.late⟩
theorem Rd.cb {W:World} {A:AF} {n c sz:Nat} {xs:AG} (h:Rd w A n c sz xs) (hb:Below w.heap.size w W) (R:List Row):RdC w.heap.size W R A n c sz xs:=
 λ_ hw=>h.below (hb.trans hw.below)
end
def mark (D:Nat):Deferred:= {target:= .collected D,args:= #[]}
section
variable {P:Program} {n:Nd} {B:Nat} {w0 w00:World} {F:Exit->Act->World->Prop} {L:Env} {R:List Row}
def V (P:Program) (n:Nd) (B:Nat) (w0:World) (c:Code) (F:Exit->Act->World->Prop) (L:Env) (R:List Row):Prop:=
 ∀a w,Sat n L a->Hp B w0 w R->c.wpIn (NF n.rd) 0 P F a w
def FQ (F:Exit->Act->World->Prop) (n:Nd) (B:Nat) (w0:World):gF:=
 ⟨λL R=> ∀a w,Sat n L a->Hp B w0 w R->F .normal a w,λL R=> ∀a w,Sat n L a->Hp B w0 w R->F .ret a w,λi L R=> ∀a w,Sat n L a->Hp B w0 w R->F (.exit i) a w⟩
theorem v_w {c:Code} (h:W P n B w0 c (FQ F n B w0) L R):V P n B w0 c F L R:=λa w hs hp=>by
 refine Bb (h a w hs hp) λe a' w' hq=> ?_;cases e with
 |normal=>obtain⟨L',R',en,cr,hf⟩:=hq;exact hf a' w' en cr
 |ret=>obtain⟨L',R',en,cr,hf⟩:=hq;exact hf a' w' en cr
 |exit i=>obtain⟨L',R',en,cr,hf⟩:=hq;exact hf a' w' en cr
 |goto l=>exact hq.elim
 |panic ch=>exact hq.elim
 |outgrown=>exact hq.elim
theorem dU {x y:Code} (h:W P n B w0 x {FQ F n B w0 with nrm:=λL R=>V P n B w0 y F L R} L R):V P n B w0 (.seq x y) F L R:=λa w hs hp=>by
 refine wpIn_seq (Bb (h a w hs hp) λe a' w' hq=> ?_);cases e with
 |normal=>obtain⟨L',R',en,cr,hf⟩:=hq;exact hf a' w' en cr
 |ret=>obtain⟨L',R',en,cr,hf⟩:=hq;exact hf a' w' en cr
 |exit i=>obtain⟨L',R',en,cr,hf⟩:=hq;exact hf a' w' en cr
 |goto l=>exact hq.elim
 |panic ch=>exact hq.elim
 |outgrown=>exact hq.elim
theorem JN {x y:Code} (h:V P n B w0 x (Exit.then (y.wpIn (NF n.rd) 0 P F) F) L R):V P n B w0 (.seq x y) F L R:=λa w hs hp=>wpIn_seq (h a w hs hp)
def VN (n:Nd) (B:Nat) (w0:World) (F:Exit->Act->World->Prop) (L:Env) (R:List Row):Prop:= ∀a w,Sat n L a->Hp B w0 w R->F .normal a w
theorem ZK {y:Code} {rd:Option Nat} (h:V P n B w0 y F L R) (gg:n.rd=rd:=by exact rfl):VN n B w0 (Exit.then (y.wpIn (NF rd) 0 P F) F) L R:=λa w hs hp=>by subst gg;exact h a w hs hp
theorem MW {id:Nat} (h:VN n B w0 F L R):VN n B w0 (Exit.inBlock id F) L R:=h
theorem tH {id:Nat} {c:Code} (h:V P n B w0 c (Exit.inBlock id F) L R):V P n B w0 (.block id c) F L R:=λa w hs hp=>wpIn_block (h a w hs hp)
def prm:List Nat->AG->Env->Env
 |p::ps,v::vs,L=>prm ps vs ((p,v)::L)
 |_,_,L=>L
theorem Sat.prm: ∀(pl:List Nat) (vs:AG) {m:Nat} {ds:List Deferred} {rd:Option Nat} {L:Env} {t:Array Value},pl.all (λp=>Nat.blt p m)=true->Sat ⟨m,ds,rd⟩ L {tmps:=t,defers:=ds}->
  Sat ⟨m,ds,rd⟩ (prm pl vs L) {tmps:=(pl.zip vs).foldl (λt (p,v)=>t.setIfInBounds p v) t,defers:=ds}
 |[],_,_,_,_,_,_,_,h=>h
 |_::_,[],_,_,_,_,_,_,h=>h
 |p::pl,v::vs,m,ds,rd,L,t,hp,h=>by
  simp only[Fg,qh] at hp;have h1:Sat ⟨m,ds,rd⟩ ((p,v)::L) {tmps:=t.setIfInBounds p v,defers:=ds}:=h.put (d:=p) hp.1 v;exact Sat.prm pl vs hp.2 h1
def Iter (P:Program) (gf:Nat) (lb:Array Value) (sk:World->Prop) (N:Nat) (f:Nat->AG):Prop:=
 ∀(l:Nat) (J:Nat->World->Prop) (W:World),(∀k W,J k W->sk W)->(∀k W (d:Nat),J k W->W.drawn<=d->J k {W with drawn:=d})->
  (∀k W,k<N->J k W->YieldAt Fence.wide 0 P l (f k).toArray W λe W'=>e= .returned (.bool true)/\J (k+1) W')->
  J 0 W->CallsIn Fence.wide 0 P gf (#[.func (.yield l) #[] #[]]++lb) W λe W'=>(∃v,e= .returned v)/\J N W'
structure Gd (B:Nat) (w00:World) (n:Nd) (w0:World):Prop where
 below:Below B w00 w0
 late:Late w00 w0
 nodup:n.ds.Nodup
 marks: ∀d∈n.ds,∃D,d=mark D/\B<=D/\w00.heap.size<=D/\w0.heap[D]? =some (.deferred (some []))
theorem Gd.refl {m:Nat}:Gd B w00 (m:Nd) w00:=⟨Ey _ _,Late.refl _, .nil,λ_ h=>(by cases h)⟩
theorem rounds {σ:Type} {m:Nat} {pl:List Nat} {assign body:Code} {gf:Nat} {lb:Array Value} {sk:World->Prop} {N:Nat} {f:Nat->AG} (it:Iter P gf lb sk N f)
  (tk:pl.all (λp=>Nat.blt p m)=true) (th: ∀k,(f k).length=pl.length) (Rx:Nat->σ->List Row) (J:Nat->σ->Prop) (qu: ∀k s w,J k s->Hp B w0 w (Rx k s)->sk w)
  (round: ∀l k s W2,k<N->J k s->Below B w0 W2->W P ⟨m,[],some l⟩ B W2 assign ⟨λL' R'=> ∀W3,Below B w0 W3->W P ⟨m,[],some l⟩ B W3 body ⟨λ_ zj=> ∃s',J (k+1) s'/\ ∀W4 w,Hp B W4 w zj->Hp B W4 w (Rx (k+1) s'),λ_ _=>False,λ_ _ _=>False⟩ L' R',λ_ _=>False,λ_ _ _=>False⟩ (prm pl (f k) L) (Rx k s))
  {l:Nat} {rec:LoopState->Loop} {fn:FuncId} {t:Array Value} {Df:Nat} (kh:rec=λst=> {state:=st,pending:=none,fn,tmps:=t,params:=pl.toArray,assign,body,defers:=Df}) (ht:Sat ⟨m,[],some l⟩ L {tmps:=t,defers:=[]}) (We:B<=l) (It:w0.heap.size<=l) (X:World->Prop)
  (hX: ∀W W' R R',X W->Hp B w0 W R->Hp B W W' R'->X W') (Vh: ∀W o,X W->X (W.putObj l o)) {W1:World} (Li:W1.heap[l]? =some (.loop (rec .ready))) (hX1:X W1) {s0:σ} (Ds:J 0 s0) (qq:Hp B w0 W1 (Rx 0 s0)):
  CallsIn Fence.wide 0 P gf (#[.func (.yield l) #[] #[]]++lb) W1 λe W'=>(∃v,e= .returned v)/\ ∃s,J N s/\Hp B w0 W' (Rx N s)/\W'.heap[l]? =some (.loop (rec .ready))/\X W':=by
 refine it l (λk W=> ∃s,J k s/\Hp B w0 W (Rx k s)/\W.heap[l]? =some (.loop (rec .ready))/\X W) W1 (λk W ⟨s,hJ,hp,_⟩=>qu k s W hJ hp) (λk W d ⟨s,hJ,hp,hl,hx⟩ hd=>⟨s,hJ,hp.drawn d hd,hl,hX _ _ _ _ hx hp (hp.rebase.drawn d hd)⟩) ?_ ⟨s0,Ds,qq,Li,hX1⟩;rintro k W hk ⟨s,hJ,hp,hl,hx⟩;have hy:=run_yield (P:=P) (args:=(f k).toArray) hl (by rw[kh];simp[th k])
 have xf:Sat ⟨m,[],some l⟩ (prm pl (f k) L) {tmps:=(rec .ready).params.zip (f k).toArray|>.foldl (λt (p,v)=>t.setIfInBounds p v) (rec .ready).tmps,defers:=[]}:=by
  rw[kh];simpa using Sat.prm pl (f k) tk ht
 refine⟨fn,_,assign,body,by rw[hy,kh],roundIn_of_wpIn trivial ?_⟩;refine Bb ((round l k s W hk hJ hp.below) _ _ (by rw[kh] at xf;exact xf) hp.rebase) ?_;rintro e a1 Wa hq;cases e with
 | normal=>
  obtain⟨L',R',en,cr,hb⟩:=hq;have Md:=cr.late.2 _ _ hl rfl;have ye:=hp.comp cr;have br:=(gu.1 Md).1;have hbr:=run_beginRound (P:=P) Md (by rw[kh]);refine⟨_,hbr,?_⟩;have oa:Hp B w0 (Wa.putObj l (.loop {rec .ready with state:= .busy})) R':=ye.putObj Md rfl _ We It;have xd:(Wa.putObj l (.loop {rec .ready with state:= .busy})).heap[l]? =some (.loop {rec .ready with state:= .busy}):=World.putObj_heap_same br;have hx2:=Vh _ (.loop {rec .ready with state:= .busy}) (hX _ _ _ _ hx hp cr);refine Bb (hb _ oa.below a1 _ en oa.rebase) ?_;rintro e a3 W3 hq;cases e with
  | normal=>
   obtain⟨L3,R3,_,b8,s',hJ',Ps⟩:=hq;have k7:=b8.late.2 _ _ xd rfl;have her:=run_endRound (P:=P) none k7;refine⟨_,_,her,rfl,s',hJ',?_,?_,?_⟩
   ·exact(oa.comp (Ps _ _ b8)).putObj k7 rfl _ We It
   ·rw [World.putObj_heap_same (gu.1 k7).1,kh];rfl
   ·exact Vh _ _ (hX _ _ _ _ hx2 oa b8)
  |ret=>obtain⟨_,_,_,_,h⟩:=hq;exact h.elim
  |exit id=>obtain⟨_,_,_,_,h⟩:=hq;exact h.elim
  |goto t=>exact hq.elim
  |panic ch=>exact hq.elim
  |outgrown=>exact hq.elim
 |ret=>obtain⟨_,_,_,_,h⟩:=hq;exact h.elim
 |exit id=>obtain⟨_,_,_,_,h⟩:=hq;exact h.elim
 |goto t=>exact hq.elim
 |panic ch=>exact hq.elim
 |outgrown=>exact hq.elim
theorem aJq {σ:Type} {m:Nat} {ds:List Deferred} {g:Operand} {pl:List Nat} {assign body:Code} {gf:Nat} {lb:Array Value} {sk:World->Prop} {N:Nat} {f:Nat->AG} (hg:ev L g=some (.func (.func gf) #[] lb))
  (Fi: ∀args w,(callFunc gf args).run P w= .ok (.enter gf args) w) (it:Iter P gf lb sk N f)
  (tk:pl.all (λp=>Nat.blt p m)=true) (th: ∀k,(f k).length=pl.length) (hG:Gd B w00 ⟨m,ds,none⟩ w0) (Rx:Nat->σ->List Row) (J:Nat->σ->Prop) (h0: ∃s,J 0 s/\ ∀w,Hp B w0 w R->Hp B w0 w (Rx 0 s)) (qu: ∀k s w,J k s->Hp B w0 w (Rx k s)->sk w)
  (round: ∀l k s W2,k<N->J k s->Below B w0 W2->W P ⟨m,[],some l⟩ B W2 assign ⟨λL' R'=> ∀W3,Below B w0 W3->W P ⟨m,[],some l⟩ B W3 body ⟨λ_ zj=> ∃s',J (k+1) s'/\ ∀W4 w,Hp B W4 w zj->Hp B W4 w (Rx (k+1) s'),λ_ _=>False,λ_ _ _=>False⟩ L' R',λ_ _=>False,λ_ _ _=>False⟩ (prm pl (f k) L) (Rx k s))
  (after: ∀W5 D s,J N s->Below B w0 W5->Gd B w00 ⟨m,mark D::ds,none⟩ W5->VN ⟨m,mark D::ds,none⟩ B W5 F L (Rx N s)):
  V P ⟨m,ds,none⟩ B w0 (.rangeFunc g pl.toArray assign body) F L R:=by
 intro a w hs hp;refine wpIn_rangeFunc ?_;intro fn _;obtain⟨rec,kh⟩: ∃rec:LoopState->Loop,rec=λst=> {state:=st,pending:=none,fn,tmps:=a.tmps,params:=pl.toArray,assign,body,defers:=w.heap.size}:=⟨_,rfl⟩;obtain⟨W1,s6⟩: ∃W1,(w.alloc (.deferred (some []))).alloc (.loop (rec .ready))=W1:=⟨_,rfl⟩
 have Li:W1.heap[w.heap.size+1]? =some (.loop (rec .ready)):=by
  rw[<-s6];have:=World.alloc_heap_new (w.alloc (.deferred (some []))) (.loop (rec .ready));rwa[World.size_alloc] at this
 have hK1:W1.heap[w.heap.size]? =some (.deferred (some [])):=by
  rw[<-s6];exact(Below.heap_alloc _ _ _ cD).trans (World.alloc_heap_new w _)
 obtain⟨s0,Ds,Od⟩:=h0;have qq:Hp B w0 W1 (Rx 0 s0):=by rw[<-s6];exact((Od w hp).allocObj _).allocObj _
 have Wh:w0.heap.size<=w.heap.size:=hp.below.size;have Wi:=hp.base;refine⟨w.heap.size+1,[mark w.heap.size],W1,{target:= .fn (.func gf) lb,args:= #[.func (.yield (w.heap.size+1)) #[] #[]]},W1,gf,#[.func (.yield (w.heap.size+1)) #[] #[]]++lb,W1,?_,?_,λ_ _=>trivial,?_,λh=>(by cases h),?_⟩
 ·rw[<-s6,kh];exact run_enterLoop_outer _ _ _ _ _
 ·simp only[resolve,hs.ev hg];simp[go_sem]
 ·simp[invoke,go_sem,Fi]
 ·refine CallsIn.mono (rounds (w0:=w0) (m:=m) (L:=L) it tk th Rx J qu round (l:=w.heap.size+1) (rec:=rec) kh ⟨hs.size,rfl,hs.val⟩ G G (λW=>W.heap[w.heap.size]? =some (.deferred (some []))/\Late w W) ?_ ?_ Li ⟨hK1,?_⟩ Ds qq) ?_
  ·rintro W W' R R' ⟨hk,hl⟩ _ h2;exact⟨h2.late.2 _ _ hk rfl,hl.trans h2.late⟩
  ·rintro W o ⟨hk,hl⟩;refine⟨(World.putObj_heap_other G).trans hk,hl.1,λk q po hc=> ?_⟩;rw[World.putObj_heap_other (λe=>by have:=(gu.1 po).1;omega)];exact hl.2 k q po hc
  ·rw [<-s6];exact(Late.alloc _ _).trans (Late.alloc _ _)
  ·rintro e W2 ⟨⟨v,rfl⟩,s,hJ,oa,xd,Ov,m9⟩;have wj:=run_endLoop (P:=P) xd (by rw[kh];simp);have Ww:(rec .ready).pending=none:=by rw[kh]
   refine⟨none,W2.putObj (w.heap.size+1) (.loop {rec .ready with state:= .exhausted}),wj.trans (bq (λp=>Result.ok p _) Ww),?_⟩;have b8:Hp B w0 (W2.putObj (w.heap.size+1) (.loop {rec .ready with state:= .exhausted})) (Rx N s):=oa.putObj xd rfl _ G G;have hk3:(W2.putObj (w.heap.size+1) (.loop {rec .ready with state:= .exhausted})).heap[w.heap.size]? =some (.deferred (some [])):=(World.putObj_heap_other G).trans Ov
   have Sb:Late w (W2.putObj (w.heap.size+1) (.loop {rec .ready with state:= .exhausted})):=⟨m9.1,λk q po hc=>by
    rw[World.putObj_heap_other (λe=>by have:=(gu.1 po).1;omega)]
    exact m9.2 k q po hc⟩
   have xb:=hs.defers;refine after _ w.heap.size s hJ b8.below ⟨hG.below.trans b8.below,hG.late.trans b8.late,xg.2 ⟨λft=> ?_,hG.nodup⟩,λd hd=> ?_⟩ _ _ ⟨hs.size,by simp only[pz,xb],hs.val⟩ b8.rebase
   ·obtain ⟨D,he,_,_,hD⟩:=hG.marks _ ft;have h1:=(gu.1 hD).1;simp only[mark,Deferred.mk.injEq,Target.collected.injEq,Aj] at he;omega
   ·rcases jd.1 hd with rfl|hd
    ·exact⟨_,rfl,G,by have:=hG.below.size;omega,hk3⟩
    ·obtain ⟨D,he,h1,h2,hD⟩:=hG.marks _ hd;exact⟨D,he,h1,h2,b8.late.2 _ _ hD rfl⟩
theorem aTh {σ0 σ1:Type} {m:Nat} {ds:List Deferred} {g:Operand} {pl:List Nat} {assign body:Code} {gf:Nat} {lb:Array Value} {sk:World->Prop} {N:Nat} {f:Nat->AG} (hg:ev L g=some (.func (.func gf) #[] lb))
  (Fi: ∀args w,(callFunc gf args).run P w= .ok (.enter gf args) w) (it:Iter P gf lb sk N f)
  (tk:pl.all (λp=>Nat.blt p m)=true) (th: ∀k,(f k).length=pl.length) (hG:Gd B w00 ⟨m,ds,none⟩ w0) (Rx:Nat->σ0->σ1->List Row) (J:Nat->σ0->σ1->Prop)
  (h0: ∃x0 x1,J 0 x0 x1/\ ∀w,Hp B w0 w R->Hp B w0 w (Rx 0 x0 x1)) (qu: ∀k x0 x1 w,J k x0 x1->Hp B w0 w (Rx k x0 x1)->sk w)
  (round: ∀l k x0 x1 W2,k<N->J k x0 x1->Below B w0 W2->W P ⟨m,[],some l⟩ B W2 assign ⟨λL' R'=> ∀W3,Below B w0 W3->W P ⟨m,[],some l⟩ B W3 body ⟨λ_ zj=> ∃y0 y1,J (k+1) y0 y1/\ ∀W4 w,Hp B W4 w zj->Hp B W4 w (Rx (k+1) y0 y1),λ_ _=>False,λ_ _ _=>False⟩ L' R',λ_ _=>False,λ_ _ _=>False⟩ (prm pl (f k) L) (Rx k x0 x1))
  (after: ∀W5 D x0 x1,J N x0 x1->Below B w0 W5->Gd B w00 ⟨m,mark D::ds,none⟩ W5->VN ⟨m,mark D::ds,none⟩ B W5 F L (Rx N x0 x1)):
  V P ⟨m,ds,none⟩ B w0 (.rangeFunc g pl.toArray assign body) F L R:=by
 obtain⟨x0,x1,h1,h2⟩:=h0;refine aJq (σ:=σ0 × σ1) hg Fi it tk th hG (λk p=>Rx k p.1 p.2) (λk p=>J k p.1 p.2) ⟨(x0,x1),h1,h2⟩ (λk p=>qu k p.1 p.2) (λl k p W2 hk hp hb=>jA (round l k p.1 p.2 W2 hk hp hb) ?_ (λ_ _ h=>h) (λ_ _ _ h=>h)) (λW5 D p=>after W5 D p.1 p.2);intro L' R' h W3 Om;refine jA (h W3 Om) ?_ (λ_ _ h=>h) (λ_ _ _ h=>h);rintro _ zj ⟨y0,y1,g1,g2⟩;exact⟨(y0,y1),g1,g2⟩
theorem CX {σ0 σ1 σ2 σ3:Type} {m:Nat} {ds:List Deferred} {g:Operand} {pl:List Nat} {assign body:Code} {gf:Nat} {lb:Array Value} {sk:World->Prop} {N:Nat} {f:Nat->AG} (hg:ev L g=some (.func (.func gf) #[] lb))
  (Fi: ∀args w,(callFunc gf args).run P w= .ok (.enter gf args) w) (it:Iter P gf lb sk N f)
  (tk:pl.all (λp=>Nat.blt p m)=true) (th: ∀k,(f k).length=pl.length) (hG:Gd B w00 ⟨m,ds,none⟩ w0) (Rx:Nat->σ0->σ1->σ2->σ3->List Row) (J:Nat->σ0->σ1->σ2->σ3->Prop)
  (h0: ∃x0 x1 x2 x3,J 0 x0 x1 x2 x3/\ ∀w,Hp B w0 w R->Hp B w0 w (Rx 0 x0 x1 x2 x3)) (qu: ∀k x0 x1 x2 x3 w,J k x0 x1 x2 x3->Hp B w0 w (Rx k x0 x1 x2 x3)->sk w)
  (round: ∀l k x0 x1 x2 x3 W2,k<N->J k x0 x1 x2 x3->Below B w0 W2->W P ⟨m,[],some l⟩ B W2 assign ⟨λL' R'=> ∀W3,Below B w0 W3->W P ⟨m,[],some l⟩ B W3 body ⟨λ_ zj=> ∃y0 y1 y2 y3,J (k+1) y0 y1 y2 y3/\ ∀W4 w,Hp B W4 w zj->Hp B W4 w (Rx (k+1) y0 y1 y2 y3),λ_ _=>False,λ_ _ _=>False⟩ L' R',λ_ _=>False,λ_ _ _=>False⟩ (prm pl (f k) L) (Rx k x0 x1 x2 x3))
  (after: ∀W5 D x0 x1 x2 x3,J N x0 x1 x2 x3->Below B w0 W5->Gd B w00 ⟨m,mark D::ds,none⟩ W5->VN ⟨m,mark D::ds,none⟩ B W5 F L (Rx N x0 x1 x2 x3)):
  V P ⟨m,ds,none⟩ B w0 (.rangeFunc g pl.toArray assign body) F L R:=by
 obtain⟨x0,x1,x2,x3,h1,h2⟩:=h0;refine aJq (σ:=σ0 × σ1 × σ2 × σ3) hg Fi it tk th hG (λk p=>Rx k p.1 p.2.1 p.2.2.1 p.2.2.2) (λk p=>J k p.1 p.2.1 p.2.2.1 p.2.2.2) ⟨(x0,x1,x2,x3),h1,h2⟩ (λk p=>qu k p.1 p.2.1 p.2.2.1 p.2.2.2) (λl k p W2 hk hp hb=>jA (round l k p.1 p.2.1 p.2.2.1 p.2.2.2 W2 hk hp hb) ?_ (λ_ _ h=>h) (λ_ _ _ h=>h)) (λW5 D p=>after W5 D p.1 p.2.1 p.2.2.1 p.2.2.2);intro L' R' h W3 Om;refine jA (h W3 Om) ?_ (λ_ _ h=>h) (λ_ _ _ h=>h);rintro _ zj ⟨y0,y1,y2,y3,g1,g2⟩;exact⟨(y0,y1,y2,y3),g1,g2⟩
def bBu (P:Program) (fn:Func) (B:Nat) (w00:World) (Post:Value->List Row->Prop):Exit->Act->World->Prop:=
 bodyPostM Fence.wide 0 P fn λe w'=> ∃v R',e= .returned v/\Hp B w00 w' R'/\Post v R'
theorem ET {fn:Func} {Post:Value->List Row->Prop} {tmps:Array Value} {v:Value} {w0:World} (hB:Below B w00 w0) (hL:Late w00 w0): ∀(ds:List Deferred) (w:World),ds.Nodup->(∀d∈ds,∃D,d=mark D/\B<=D/\w00.heap.size<=D/\w.heap[D]? =some (.deferred (some [])))->Hp B w00 w R->(∀w,(results fn tmps).run P w= .ok v w)->Post v R->
  LeavesInM Fence.wide 0 P fn tmps (λe w'=> ∃v R',e= .returned v/\Hp B w00 w' R'/\Post v R') ds .returning w
 |[],w,_,_,hp,hr,hv=>⟨v,hr w,v,R,rfl,hp,hv⟩
 |d::ds,w,hn,hm,hp,hr,hv=>by
  obtain⟨D,rfl,h1,h2,hD⟩:=hm _ (.head _);refine⟨cD, .inl ⟨D,_,rfl,run_takeDeferred hD,ET hB hL ds _ (xg.1 hn).2 (λd hd=> ?_) (hp.putObj hD rfl _ h1 h2) hr hv⟩⟩;obtain⟨D',he,h1',h2',hD'⟩:=hm d (.tail _ hd);refine⟨D',he,h1',h2',(World.putObj_heap_other λe=> ?_).trans hD'⟩;subst e;subst he;exact(xg.1 hn).1 hd
theorem aYo {fn:Func} {Post:Value->List Row->Prop} {v:Value} (hG:Gd B w00 n w0) (Ph: ∀a w,Sat n L a->(results fn a.tmps).run P w= .ok v w) (hv:Post v R): ∀a w,Sat n L a->Hp B w0 w R->bBu P fn B w00 Post .ret a w/\bBu P fn B w00 Post .normal a w:=by
 intro a w hs hp;have cr:Hp B w00 w R:=⟨hG.below.trans hp.below,hp.base,hp.own,hp.apart,hG.late.trans hp.late⟩
 have h:=ET (P:=P) (fn:=fn) (Post:=Post) (tmps:=a.tmps) (v:=v) hG.below hG.late n.ds w hG.nodup (λd hd=>by
  obtain⟨D,he,h1,h2,hD⟩:=hG.marks d hd
  exact⟨D,he,h1,h2,hp.late.2 _ _ hD rfl⟩) cr (λw=>Ph a w hs) hv
 rw[<-hs.defers] at h;exact⟨h,h⟩
theorem bMu {fn:Func} {Post:Value->List Row->Prop} {r:Nat} (hr:fn.results= #[.tmp r]) (hG:Gd B w00 n w0) (h: ∃v,lk L r=some v/\Post v R): ∀a w,Sat n L a->Hp B w0 w R->bBu P fn B w00 Post .ret a w:=by
 obtain⟨v,hv,mn⟩:=h;exact λa w hs hp=>(aYo hG (λa w hs=>by rw[results_tmp hr,hs.getD hv]) mn a w hs hp).1
theorem aQm {fn:Func} {Post:Value->List Row->Prop} {r s:Nat} (hr:fn.results= #[.tmp r, .tmp s]) (hG:Gd B w00 n w0) (h: ∃v u,lk L r=some v/\lk L s=some u/\Post (.tuple #[v,u]) R): ∀a w,Sat n L a->Hp B w0 w R->bBu P fn B w00 Post .ret a w:=by
 obtain⟨v,u,hv,hu,mn⟩:=h;exact λa w hs hp=>(aYo hG (λa w hs=>by rw[results_tmp2 hr,hs.getD hv,hs.getD hu]) mn a w hs hp).1
theorem fnV {f:FuncId} {fn:Func} {c:Code} {args:AG} {Post:Value->List Row->Prop} (hf:P.funcs[f]? =some fn) (hb:fn.body=some c) (hl:Nat.ble args.length fn.ntmps=true)
  (h:V P (fn.ntmps:Nd) B w00 c (bBu P fn B w00 Post) (ini 0 args) R):Ct P f args.toArray B w00 R Post:=by
 intro w hw;have Sa:args.length<=fn.ntmps:=ak hl;refine callsIn_wide.1 (callsIn_of_wp_marks (F:=Fence.wide) (n:=0) hf hb trivial (h _ w ⟨cH,rfl,λt v ht=> ?_⟩ hw));obtain⟨_,h2⟩:=XN args 0 t v ht;simp only[yg] at h2;have br:=(fw.1 h2).1;rw[<-h2];simp[zx,br]
end
section
variable {P:Program} {n:Nd} {B:Nat} {w0 w00:World} {F:Exit->Act->World->Prop} {L:Env} {R:List Row}
theorem aKb {σ:Type} {m:Nat} {pl:List Nat} {assign body:Code} {gf:Nat} {lb:Array Value} {sk:World->Prop} {N:Nat} {f:Nat->AG} (it:Iter P gf lb sk N f)
  (tk:pl.all (λp=>Nat.blt p m)=true) (th: ∀k,(f k).length=pl.length) (Rx:Nat->σ->List Row) (J:Nat->σ->Prop) (qu: ∀k s w,J k s->Hp B w0 w (Rx k s)->sk w)
  (round: ∀l k s W2,k<N->J k s->Below B w0 W2->W P ⟨m,[],some l⟩ B W2 assign ⟨λL' R'=> ∀W3,Below B w0 W3->(∃rc,W3.heap[l]? =some (.loop rc))->W P ⟨m,[],some l⟩ B W3 body ⟨λ_ zj=> ∃s',J (k+1) s'/\ ∀W4 w,Hp B W4 w zj->Hp B W4 w (Rx (k+1) s'),λ_ _=>False,λ_ _ _=>False⟩ L' R',λ_ _=>False,λ_ _ _=>False⟩ (prm pl (f k) L) (Rx k s))
  {l:Nat} {rec:LoopState->Loop} {fn:FuncId} {t:Array Value} {Df:Nat} (kh:rec=λst=> {state:=st,pending:=none,fn,tmps:=t,params:=pl.toArray,assign,body,defers:=Df}) (ht:Sat ⟨m,[],some l⟩ L {tmps:=t,defers:=[]}) (We:B<=l) (It:w0.heap.size<=l) (X:World->Prop)
  (hX: ∀W W' R R',X W->Hp B w0 W R->Hp B W W' R'->X W') (Vh: ∀W o,X W->X (W.putObj l o)) {W1:World} (Li:W1.heap[l]? =some (.loop (rec .ready))) (hX1:X W1) {s0:σ} (Ds:J 0 s0) (qq:Hp B w0 W1 (Rx 0 s0)):
  CallsIn Fence.wide 0 P gf (#[.func (.yield l) #[] #[]]++lb) W1 λe W'=>(∃v,e= .returned v)/\ ∃s,J N s/\Hp B w0 W' (Rx N s)/\W'.heap[l]? =some (.loop (rec .ready))/\X W':=by
 refine it l (λk W=> ∃s,J k s/\Hp B w0 W (Rx k s)/\W.heap[l]? =some (.loop (rec .ready))/\X W) W1 (λk W ⟨s,hJ,hp,_⟩=>qu k s W hJ hp) (λk W d ⟨s,hJ,hp,hl,hx⟩ hd=>⟨s,hJ,hp.drawn d hd,hl,hX _ _ _ _ hx hp (hp.rebase.drawn d hd)⟩) ?_ ⟨s0,Ds,qq,Li,hX1⟩;rintro k W hk ⟨s,hJ,hp,hl,hx⟩;have hy:=run_yield (P:=P) (args:=(f k).toArray) hl (by rw[kh];simp[th k])
 have xf:Sat ⟨m,[],some l⟩ (prm pl (f k) L) {tmps:=(rec .ready).params.zip (f k).toArray|>.foldl (λt (p,v)=>t.setIfInBounds p v) (rec .ready).tmps,defers:=[]}:=by
  rw[kh];simpa using Sat.prm pl (f k) tk ht
 refine⟨fn,_,assign,body,by rw[hy,kh],roundIn_of_wpIn trivial ?_⟩;refine Bb ((round l k s W hk hJ hp.below) _ _ (by rw[kh] at xf;exact xf) hp.rebase) ?_;rintro e a1 Wa hq;cases e with
 | normal=>
  obtain⟨L',R',en,cr,hb⟩:=hq;have Md:=cr.late.2 _ _ hl rfl;have ye:=hp.comp cr;have br:=(gu.1 Md).1;have hbr:=run_beginRound (P:=P) Md (by rw[kh]);refine⟨_,hbr,?_⟩;have oa:Hp B w0 (Wa.putObj l (.loop {rec .ready with state:= .busy})) R':=ye.putObj Md rfl _ We It;have xd:(Wa.putObj l (.loop {rec .ready with state:= .busy})).heap[l]? =some (.loop {rec .ready with state:= .busy}):=World.putObj_heap_same br;have hx2:=Vh _ (.loop {rec .ready with state:= .busy}) (hX _ _ _ _ hx hp cr);refine Bb (hb _ oa.below ⟨_,xd⟩ a1 _ en oa.rebase) ?_;rintro e a3 W3 hq;cases e with
  | normal=>
   obtain⟨L3,R3,_,b8,s',hJ',Ps⟩:=hq;have k7:=b8.late.2 _ _ xd rfl;have her:=run_endRound (P:=P) none k7;refine⟨_,_,her,rfl,s',hJ',?_,?_,?_⟩
   ·exact(oa.comp (Ps _ _ b8)).putObj k7 rfl _ We It
   ·rw [World.putObj_heap_same (gu.1 k7).1,kh];rfl
   ·exact Vh _ _ (hX _ _ _ _ hx2 oa b8)
  |ret=>obtain⟨_,_,_,_,h⟩:=hq;exact h.elim
  |exit id=>obtain⟨_,_,_,_,h⟩:=hq;exact h.elim
  |goto t=>exact hq.elim
  |panic ch=>exact hq.elim
  |outgrown=>exact hq.elim
 |ret=>obtain⟨_,_,_,_,h⟩:=hq;exact h.elim
 |exit id=>obtain⟨_,_,_,_,h⟩:=hq;exact h.elim
 |goto t=>exact hq.elim
 |panic ch=>exact hq.elim
 |outgrown=>exact hq.elim
theorem aTg {σ:Type} {m:Nat} {ds:List Deferred} {g:Operand} {pl:List Nat} {assign body:Code} {gf:Nat} {lb:Array Value} {sk:World->Prop} {N:Nat} {f:Nat->AG} (hg:ev L g=some (.func (.func gf) #[] lb))
  (Fi: ∀args w,(callFunc gf args).run P w= .ok (.enter gf args) w) (it:Iter P gf lb sk N f)
  (tk:pl.all (λp=>Nat.blt p m)=true) (th: ∀k,(f k).length=pl.length) (hG:Gd B w00 ⟨m,ds,none⟩ w0) (Rx:Nat->σ->List Row) (J:Nat->σ->Prop) (h0: ∃s,J 0 s/\ ∀w,Hp B w0 w R->Hp B w0 w (Rx 0 s)) (qu: ∀k s w,J k s->Hp B w0 w (Rx k s)->sk w)
  (round: ∀l k s W2,k<N->J k s->Below B w0 W2->W P ⟨m,[],some l⟩ B W2 assign ⟨λL' R'=> ∀W3,Below B w0 W3->(∃rc,W3.heap[l]? =some (.loop rc))->W P ⟨m,[],some l⟩ B W3 body ⟨λ_ zj=> ∃s',J (k+1) s'/\ ∀W4 w,Hp B W4 w zj->Hp B W4 w (Rx (k+1) s'),λ_ _=>False,λ_ _ _=>False⟩ L' R',λ_ _=>False,λ_ _ _=>False⟩ (prm pl (f k) L) (Rx k s))
  (after: ∀W5 D s,J N s->Below B w0 W5->Gd B w00 ⟨m,mark D::ds,none⟩ W5->VN ⟨m,mark D::ds,none⟩ B W5 F L (Rx N s)):
  V P ⟨m,ds,none⟩ B w0 (.rangeFunc g pl.toArray assign body) F L R:=by
 intro a w hs hp;refine wpIn_rangeFunc ?_;intro fn _;obtain⟨rec,kh⟩: ∃rec:LoopState->Loop,rec=λst=> {state:=st,pending:=none,fn,tmps:=a.tmps,params:=pl.toArray,assign,body,defers:=w.heap.size}:=⟨_,rfl⟩;obtain⟨W1,s6⟩: ∃W1,(w.alloc (.deferred (some []))).alloc (.loop (rec .ready))=W1:=⟨_,rfl⟩
 have Li:W1.heap[w.heap.size+1]? =some (.loop (rec .ready)):=by
  rw[<-s6];have:=World.alloc_heap_new (w.alloc (.deferred (some []))) (.loop (rec .ready));rwa[World.size_alloc] at this
 have hK1:W1.heap[w.heap.size]? =some (.deferred (some [])):=by
  rw[<-s6];exact(Below.heap_alloc _ _ _ cD).trans (World.alloc_heap_new w _)
 obtain⟨s0,Ds,Od⟩:=h0;have qq:Hp B w0 W1 (Rx 0 s0):=by rw[<-s6];exact((Od w hp).allocObj _).allocObj _
 have Wh:w0.heap.size<=w.heap.size:=hp.below.size;have Wi:=hp.base;refine⟨w.heap.size+1,[mark w.heap.size],W1,{target:= .fn (.func gf) lb,args:= #[.func (.yield (w.heap.size+1)) #[] #[]]},W1,gf,#[.func (.yield (w.heap.size+1)) #[] #[]]++lb,W1,?_,?_,λ_ _=>trivial,?_,λh=>(by cases h),?_⟩
 ·rw[<-s6,kh];exact run_enterLoop_outer _ _ _ _ _
 ·simp only[resolve,hs.ev hg];simp[go_sem]
 ·simp[invoke,go_sem,Fi]
 ·refine CallsIn.mono (aKb (w0:=w0) (m:=m) (L:=L) it tk th Rx J qu round (l:=w.heap.size+1) (rec:=rec) kh ⟨hs.size,rfl,hs.val⟩ G G (λW=>W.heap[w.heap.size]? =some (.deferred (some []))/\Late w W) ?_ ?_ Li ⟨hK1,?_⟩ Ds qq) ?_
  ·rintro W W' R R' ⟨hk,hl⟩ _ h2;exact⟨h2.late.2 _ _ hk rfl,hl.trans h2.late⟩
  ·rintro W o ⟨hk,hl⟩;refine⟨(World.putObj_heap_other G).trans hk,hl.1,λk q po hc=> ?_⟩;rw[World.putObj_heap_other (λe=>by have:=(gu.1 po).1;omega)];exact hl.2 k q po hc
  ·rw [<-s6];exact(Late.alloc _ _).trans (Late.alloc _ _)
  ·rintro e W2 ⟨⟨v,rfl⟩,s,hJ,oa,xd,Ov,m9⟩;have wj:=run_endLoop (P:=P) xd (by rw[kh];simp);have Ww:(rec .ready).pending=none:=by rw[kh]
   refine⟨none,W2.putObj (w.heap.size+1) (.loop {rec .ready with state:= .exhausted}),wj.trans (bq (λp=>Result.ok p _) Ww),?_⟩;have b8:Hp B w0 (W2.putObj (w.heap.size+1) (.loop {rec .ready with state:= .exhausted})) (Rx N s):=oa.putObj xd rfl _ G G;have hk3:(W2.putObj (w.heap.size+1) (.loop {rec .ready with state:= .exhausted})).heap[w.heap.size]? =some (.deferred (some [])):=(World.putObj_heap_other G).trans Ov
   have Sb:Late w (W2.putObj (w.heap.size+1) (.loop {rec .ready with state:= .exhausted})):=⟨m9.1,λk q po hc=>by
    rw[World.putObj_heap_other (λe=>by have:=(gu.1 po).1;omega)]
    exact m9.2 k q po hc⟩
   have xb:=hs.defers;refine after _ w.heap.size s hJ b8.below ⟨hG.below.trans b8.below,hG.late.trans b8.late,xg.2 ⟨λft=> ?_,hG.nodup⟩,λd hd=> ?_⟩ _ _ ⟨hs.size,by simp only[pz,xb],hs.val⟩ b8.rebase
   ·obtain ⟨D,he,_,_,hD⟩:=hG.marks _ ft;have h1:=(gu.1 hD).1;simp only[mark,Deferred.mk.injEq,Target.collected.injEq,Aj] at he;omega
   ·rcases jd.1 hd with rfl|hd
    ·exact⟨_,rfl,G,by have:=hG.below.size;omega,hk3⟩
    ·obtain ⟨D,he,h1,h2,hD⟩:=hG.marks _ hd;exact⟨D,he,h1,h2,b8.late.2 _ _ hD rfl⟩
theorem aNe {σ0 σ1 σ2 σ3:Type} {m:Nat} {ds:List Deferred} {g:Operand} {pl:List Nat} {assign body:Code} {gf:Nat} {lb:Array Value} {sk:World->Prop} {N:Nat} {f:Nat->AG} (hg:ev L g=some (.func (.func gf) #[] lb))
  (Fi: ∀args w,(callFunc gf args).run P w= .ok (.enter gf args) w) (it:Iter P gf lb sk N f)
  (tk:pl.all (λp=>Nat.blt p m)=true) (th: ∀k,(f k).length=pl.length) (hG:Gd B w00 ⟨m,ds,none⟩ w0) (Rx:Nat->σ0->σ1->σ2->σ3->List Row) (J:Nat->σ0->σ1->σ2->σ3->Prop)
  (h0: ∃x0 x1 x2 x3,J 0 x0 x1 x2 x3/\ ∀w,Hp B w0 w R->Hp B w0 w (Rx 0 x0 x1 x2 x3)) (qu: ∀k x0 x1 x2 x3 w,J k x0 x1 x2 x3->Hp B w0 w (Rx k x0 x1 x2 x3)->sk w)
  (round: ∀l k x0 x1 x2 x3 W2,k<N->J k x0 x1 x2 x3->Below B w0 W2->W P ⟨m,[],some l⟩ B W2 assign ⟨λL' R'=> ∀W3,Below B w0 W3->(∃rc,W3.heap[l]? =some (.loop rc))->W P ⟨m,[],some l⟩ B W3 body ⟨λ_ zj=> ∃y0 y1 y2 y3,J (k+1) y0 y1 y2 y3/\ ∀W4 w,Hp B W4 w zj->Hp B W4 w (Rx (k+1) y0 y1 y2 y3),λ_ _=>False,λ_ _ _=>False⟩ L' R',λ_ _=>False,λ_ _ _=>False⟩ (prm pl (f k) L) (Rx k x0 x1 x2 x3))
  (after: ∀W5 D x0 x1 x2 x3,J N x0 x1 x2 x3->Below B w0 W5->Gd B w00 ⟨m,mark D::ds,none⟩ W5->VN ⟨m,mark D::ds,none⟩ B W5 F L (Rx N x0 x1 x2 x3)):
  V P ⟨m,ds,none⟩ B w0 (.rangeFunc g pl.toArray assign body) F L R:=by
 obtain⟨x0,x1,x2,x3,h1,h2⟩:=h0;refine aTg (σ:=σ0 × σ1 × σ2 × σ3) hg Fi it tk th hG (λk p=>Rx k p.1 p.2.1 p.2.2.1 p.2.2.2) (λk p=>J k p.1 p.2.1 p.2.2.1 p.2.2.2) ⟨(x0,x1,x2,x3),h1,h2⟩ (λk p=>qu k p.1 p.2.1 p.2.2.1 p.2.2.2) (λl k p W2 hk hp hb=>jA (round l k p.1 p.2.1 p.2.2.1 p.2.2.2 W2 hk hp hb) ?_ (λ_ _ h=>h) (λ_ _ _ h=>h)) (λW5 D p=>after W5 D p.1 p.2.1 p.2.2.1 p.2.2.2);intro L' R' h W3 Om k7;refine jA (h W3 Om k7) ?_ (λ_ _ h=>h) (λ_ _ _ h=>h);rintro _ zj ⟨y0,y1,y2,y3,g1,g2⟩;exact⟨(y0,y1,y2,y3),g1,g2⟩
theorem bCa {σ:Type} {m l0:Nat} {g:Operand} {pl:List Nat} {assign body:Code} {gf:Nat} {lb:Array Value} {sk:World->Prop} {N:Nat} {f:Nat->AG} {Q:gF} (hg:ev L g=some (.func (.func gf) #[] lb))
  (Fi: ∀args w,(callFunc gf args).run P w= .ok (.enter gf args) w) (it:Iter P gf lb sk N f)
  (tk:pl.all (λp=>Nat.blt p m)=true) (th: ∀k,(f k).length=pl.length) (It: ∃rc,w0.heap[l0]? =some (.loop rc)) (Rx:Nat->σ->List Row) (J:Nat->σ->Prop) (h0: ∃s,J 0 s/\ ∀w,Hp B w0 w R->Hp B w0 w (Rx 0 s)) (qu: ∀k s w,J k s->Hp B w0 w (Rx k s)->sk w)
  (round: ∀l k s W2,k<N->J k s->Below B w0 W2->W P ⟨m,[],some l⟩ B W2 assign ⟨λL' R'=> ∀W3,Below B w0 W3->(∃rc,W3.heap[l]? =some (.loop rc))->W P ⟨m,[],some l⟩ B W3 body ⟨λ_ zj=> ∃s',J (k+1) s'/\ ∀W4 w,Hp B W4 w zj->Hp B W4 w (Rx (k+1) s'),λ_ _=>False,λ_ _ _=>False⟩ L' R',λ_ _=>False,λ_ _ _=>False⟩ (prm pl (f k) L) (Rx k s))
  (after: ∀s,J N s->Q.nrm L (Rx N s)):
  W P ⟨m,[],some l0⟩ B w0 (.rangeFunc g pl.toArray assign body) Q L R:=by
 obtain⟨r0,Mm⟩:=It;intro a w hs hp;have hl0w:=hp.late.2 _ _ Mm rfl;refine wpIn_rangeFunc ?_;intro fn _;obtain⟨rec,kh⟩: ∃rec:LoopState->Loop,rec=λst=> {state:=st,pending:=none,fn,tmps:=a.tmps,params:=pl.toArray,assign,body,defers:=r0.defers}:=⟨_,rfl⟩;obtain⟨W1,s6⟩: ∃W1,w.alloc (.loop (rec .ready))=W1:=⟨_,rfl⟩;have Li:W1.heap[w.heap.size]? =some (.loop (rec .ready)):=by rw[<-s6];exact World.alloc_heap_new w _
 obtain⟨s0,Ds,Od⟩:=h0;have qq:Hp B w0 W1 (Rx 0 s0):=by rw[<-s6];exact(Od w hp).allocObj _
 have Wh:w0.heap.size<=w.heap.size:=hp.below.size;have Wi:=hp.base;refine⟨w.heap.size,[],W1,{target:= .fn (.func gf) lb,args:= #[.func (.yield w.heap.size) #[] #[]]},W1,gf,#[.func (.yield w.heap.size) #[] #[]]++lb,W1,?_,?_,λ_ _=>trivial,?_,λh=>(by cases h),?_⟩
 ·rw[<-s6,kh];exact run_enterLoop_inner hl0w _ _ _ _ _
 ·simp only[resolve,hs.ev hg];simp[go_sem]
 ·simp[invoke,go_sem,Fi]
 ·refine CallsIn.mono (aKb (w0:=w0) (m:=m) (L:=L) it tk th Rx J qu round (l:=w.heap.size) (rec:=rec) kh ⟨hs.size,rfl,hs.val⟩ G G (λ_=>True) (λ_ _ _ _ _ _ _=>trivial) (λ_ _ _=>trivial) Li trivial Ds qq) ?_;rintro e W2 ⟨⟨v,rfl⟩,s,hJ,oa,xd,_⟩;have wj:=run_endLoop (P:=P) xd (by rw[kh];simp);have Ww:(rec .ready).pending=none:=by rw[kh]
  refine⟨none,W2.putObj w.heap.size (.loop {rec .ready with state:= .exhausted}),wj.trans (bq (λp=>Result.ok p _) Ww),?_⟩;have xb:=hs.defers;exact⟨L,Rx N s,⟨hs.size,by simp only[iv,xb],hs.val⟩,oa.putObj xd rfl _ G G,after s hJ⟩
theorem aTc {σ0 σ1 σ2 σ3:Type} {m l0:Nat} {g:Operand} {pl:List Nat} {assign body:Code} {gf:Nat} {lb:Array Value} {sk:World->Prop} {N:Nat} {f:Nat->AG} {Q:gF} (hg:ev L g=some (.func (.func gf) #[] lb))
  (Fi: ∀args w,(callFunc gf args).run P w= .ok (.enter gf args) w) (it:Iter P gf lb sk N f)
  (tk:pl.all (λp=>Nat.blt p m)=true) (th: ∀k,(f k).length=pl.length) (It: ∃rc,w0.heap[l0]? =some (.loop rc)) (Rx:Nat->σ0->σ1->σ2->σ3->List Row) (J:Nat->σ0->σ1->σ2->σ3->Prop)
  (h0: ∃x0 x1 x2 x3,J 0 x0 x1 x2 x3/\ ∀w,Hp B w0 w R->Hp B w0 w (Rx 0 x0 x1 x2 x3)) (qu: ∀k x0 x1 x2 x3 w,J k x0 x1 x2 x3->Hp B w0 w (Rx k x0 x1 x2 x3)->sk w)
  (round: ∀l k x0 x1 x2 x3 W2,k<N->J k x0 x1 x2 x3->Below B w0 W2->W P ⟨m,[],some l⟩ B W2 assign ⟨λL' R'=> ∀W3,Below B w0 W3->(∃rc,W3.heap[l]? =some (.loop rc))->W P ⟨m,[],some l⟩ B W3 body ⟨λ_ zj=> ∃y0 y1 y2 y3,J (k+1) y0 y1 y2 y3/\ ∀W4 w,Hp B W4 w zj->Hp B W4 w (Rx (k+1) y0 y1 y2 y3),λ_ _=>False,λ_ _ _=>False⟩ L' R',λ_ _=>False,λ_ _ _=>False⟩ (prm pl (f k) L) (Rx k x0 x1 x2 x3))
  (after: ∀x0 x1 x2 x3,J N x0 x1 x2 x3->Q.nrm L (Rx N x0 x1 x2 x3)):
  W P ⟨m,[],some l0⟩ B w0 (.rangeFunc g pl.toArray assign body) Q L R:=by
 obtain⟨x0,x1,x2,x3,h1,h2⟩:=h0;refine bCa (σ:=σ0 × σ1 × σ2 × σ3) hg Fi it tk th It (λk p=>Rx k p.1 p.2.1 p.2.2.1 p.2.2.2) (λk p=>J k p.1 p.2.1 p.2.2.1 p.2.2.2) ⟨(x0,x1,x2,x3),h1,h2⟩ (λk p=>qu k p.1 p.2.1 p.2.2.1 p.2.2.2) (λl k p W2 hk hp hb=>jA (round l k p.1 p.2.1 p.2.2.1 p.2.2.2 W2 hk hp hb) ?_ (λ_ _ h=>h) (λ_ _ _ h=>h)) (λp=>after p.1 p.2.1 p.2.2.1 p.2.2.2);intro L' R' h W3 Om k7;refine jA (h W3 Om k7) ?_ (λ_ _ h=>h) (λ_ _ _ h=>h);rintro _ zj ⟨y0,y1,y2,y3,g1,g2⟩;exact⟨(y0,y1,y2,y3),g1,g2⟩
def SlR (k:IntKind) (Rs:List Row) (vals:AG) (ls:AD):Prop:=vals.length=ls.length/\ ∀j:Nat,j<ls.length-> ∃(A:AF) (c:Nat),vals[j]? =some (.slice A (ls.getD j []).length c)/\ ∀(B:Nat) (w0 w:World),Hp B w0 w Rs->Rd w A (ls.getD j []).length c 1 (ints k (ls.getD j []))
theorem SlR.nil (k:IntKind):SlR k [] [] []:=⟨rfl,λj hj=>by simp at hj⟩
theorem SlR.snoc {k:IntKind} {Rs:List Row} {vals:AG} {ls:AD} {A:AF} {n c e:Nat} {l:AH} {ro:Bool} (h:SlR k Rs vals ls) (hn:n=l.length):SlR k (⟨e,1,A,n,c,ints k l,ro⟩::Rs) (vals++[.slice A n c]) (ls++[l]):=by
 subst hn;refine⟨by simp[h.1],λj hj=> ?_⟩;rcases gp j ls.length with g|g
 ·obtain ⟨A',c',h1,h2⟩:=h.2 j g
  have e1:(ls++[l]).getD j []=ls.getD j []:=by
   rw[ai,ai,ji g]
  rw[e1];exact⟨A',c',by rw[ji (by rw[h.1];exact g)];exact h1,λB w0 w hw=>h2 B w0 w hw.tail⟩
 ·have Fm:j=ls.length:=by simp at hj;omega
  subst Fm;have e1:(ls++[l]).getD ls.length []=l:=by simp[ai]
  rw[e1];refine⟨A,c,by rw[<-h.1];simp,λB w0 w hw=> ?_⟩;exact rdr (R:=⟨e,1,A,l.length,c,ints k l,ro⟩::Rs) 0 rfl w hw
theorem SlR.at {k:IntKind} {Rs:List Row} {vals:AG} {ls:AD} (h:SlR k Rs vals ls) {i:Int} (h0:0<=i) (h1:i<ls.length): ∃(A:AF) (c:Nat),vals[i.toNat]? =some (.slice A (rdl ls i).length c)/\ ∀(B:Nat) (w0 w:World),Hp B w0 w Rs->Rd w A (rdl ls i).length c 1 (ints k (rdl ls i)):=h.2 i.toNat G
theorem Hp.left {w:World} {X T:List Row} (h:Hp B w0 w (X++T)):Hp B w0 w X:=h.sublist (List.sublist_append_left X T)
theorem Hp.toTail0 {w:World} {X Rs Y:List Row} (h:Hp B w0 w ((X++Rs)++Y)):Hp B w0 w (X++(Y++Rs)):=by
 refine h.perm ?_;rw[dx];exact wz X rf
theorem bRd {Q:gF} {c:Code} {d:Nat} {v:Value} (h:lk L d=some v) (k:W P n B w0 c Q ((d,v)::L) R):W P n B w0 c Q L R:=λa w hs hp=>k a w ⟨hs.size,hs.defers,λt u ht=>by
 unfold lk at ht;cases e:Nat.beq d t with
 |true=>rw[e] at ht;simp only[cond_true] at ht;obtain rfl:=yo e;exact hs.val _ _ (h.trans ht)
 |false=>rw[e] at ht;simp only[cond_false] at ht;exact hs.val _ _ ht⟩ hp
theorem Hp.toTail {w:World} {X Rs Y T:List Row} (h:Hp B w0 w ((X++Rs)++(Y++T))):Hp B w0 w (X++(Y++(Rs++T))):=by
 refine h.perm ?_;rw[dx];refine wz X ?_;rw[<-dx,<-dx];exact zl T rf
end
end Go.Eng
