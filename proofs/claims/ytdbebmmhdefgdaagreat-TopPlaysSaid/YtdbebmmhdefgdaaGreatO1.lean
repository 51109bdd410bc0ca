/- Own work. -/
import Derived.WalkKit
import Derived.Maps.AppendAt
import Derived.Deep.LoopGhost
import Derived.Orders
import Derived.OrdersIn
import Derived.TacticsIn
import Derived.Sort.LoopGhostIn
import Derived.Laws.BytesArg
import Derived.Lib.ConvBytes
import Derived.Laws.MakeOwn
import Derived.Laws.OwnMore
import Derived.Laws.Slices
import Derived.OrdersHeld
import Derived.Test.YtdbebmmhdefgdaaGreatProg
import Derived.KernelRfl
import Derived.ProofKit
import Derived.OpenShut
import Derived.Laws.LoneSync
import Derived.Deep.Matrix
import Derived.Laws.Rows
import Derived.SizedLaws
import Derived.Shelf.SlSortCmp.WholeK
set_option linter.unusedVariables false
set_option linter.unusedSimpArgs false
set_option maxHeartbeats 8000000
namespace Go
abbrev aa:=@Go.Proofs.Tryz.underlying52
abbrev af:=@Go.Proofs.Tryz.underlying22
abbrev ah.{u}:=@List.length_append.{u}
abbrev ai:=@Go.Proofs.Tryz.underlying3
abbrev ak.{u}:=@List.getD_eq_getElem?_getD.{u}
abbrev au:=@Nat.le_of_ble_eq_true
abbrev av.{u}:=@List.getElem?_eq_getElem.{u}
abbrev ax.{u}:=@List.length_take.{u}
abbrev ay:=@Go.Proofs.Tryz.underlying5
abbrev az.{u}:=@List.length_drop.{u}
abbrev bg.{u}:=@List.take_of_length_le.{u}
abbrev bi:=@Go.Proofs.Tryz.underlying27
abbrev bn:=@Int.lt_or_le
abbrev bq.{u,v}:=@congrArg.{u,v}
abbrev bu.{u}:=@List.length_replicate.{u}
abbrev bz.{u}:=@if_neg.{u}
abbrev cu.{u,v}:=@List.length_map.{u,v}
abbrev cz:=@Int.toNat_natCast
abbrev df.{u}:=@if_pos.{u}
abbrev dh.{u}:=@List.length_cons.{u}
abbrev di:=@Nat.le_refl
abbrev dm:=@Go.Proofs.Tryz.underlying23
abbrev dn.{u}:=@List.pairwise_iff_getElem.{u}
abbrev dw.{u}:=@List.getElem?_eq_some_iff.{u}
abbrev dx:=@Go.Proofs.Tryz.underlying112
abbrev dz:=@Go.Proofs.Tryz.underlying56
abbrev ed:=@Nat.eq_zero_or_pos
abbrev ek.{u}:=@List.eq_nil_of_length_eq_zero.{u}
abbrev fe.{u}:=@List.mem_cons_of_mem.{u}
abbrev fo:=@Nat.lt_or_ge
abbrev fw.{u}:=@List.mem_of_getElem?.{u}
abbrev gm.{u}:=@Array.getElem?_eq_some_iff.{u}
abbrev gp.{u}:=@List.mem_append.{u}
abbrev gq.{u}:=@List.length_singleton.{u}
abbrev gu.{u}:=@List.take_append_drop.{u}
abbrev gy.{u}:=@List.append_assoc.{u}
abbrev gz.{u}:=@List.mem_iff_getElem.{u}
abbrev ib.{u}:=@List.mem_singleton.{u}
abbrev ic:=@Go.Proofs.Tryz.underlying87
abbrev ig.{u}:=@List.getElem?_append_right.{u}
abbrev ii:=@Go.Proofs.Tryz.underlying100
abbrev ik:=@Go.Proofs.Tryz.underlying102
abbrev il.{u,v}:=@Option.map_eq_some_iff.{u,v}
abbrev iv:=@decide_eq_true_iff
abbrev iw.{u,v}:=@List.pairwise_map.{u,v}
abbrev iy.{u,v}:=@List.mem_map.{u,v}
abbrev ja:=@Int.emod_lt_of_pos
abbrev jb.{u}:=@List.pairwise_cons.{u}
abbrev jc.{u}:=@Option.some.inj.{u}
abbrev jd:=@Int.lt_trichotomy
abbrev je.{u}:=@List.nil_append.{u}
abbrev jf:=@Go.Proofs.Tryz.underlying25
abbrev jg:=@Go.Proofs.Tryz.underlying228
abbrev jh.{u}:=@List.cons_append.{u}
abbrev ji.{u}:=@List.getElem?_append_left.{u}
abbrev jk.{u}:=@List.append_nil.{u}
abbrev jl.{u}:=@List.length_nil.{u}
abbrev jm.{u}:=@List.mem_cons.{u}
abbrev jo.{u,v}:=@List.map_append.{u,v}
abbrev jq:=@List.mem_range
abbrev jr.{u}:=@Array.length_toList.{u}
abbrev jv:=@Go.Proofs.Tryz.underlying253
abbrev jw:=@Go.Result.andThen_ok
abbrev jy:=@Go.Proofs.Tryz.underlying230
abbrev kg:=@Go.Sem.run_bind
abbrev ko:=@Int.emod_nonneg
abbrev ku:=@Go.Value.slice.injEq
abbrev kv.{u}:=@List.drop_eq_getElem_cons.{u}
abbrev ky.{u,v}:=@Option.map_some.{u,v}
abbrev kz.{u}:=@List.pairwise_append.{u}
abbrev lc:=@Go.Proofs.Tryz.underlying54
abbrev lh:=@Nat.mod_eq_of_lt
abbrev ll.{u}:=@List.filter_cons_of_neg.{u}
abbrev lm.{u,v}:=@List.map_cons.{u,v}
abbrev lq:=@Int.le_refl
abbrev lu:=@Go.Proofs.Tryz.underlying49
abbrev lv.{u}:=@Option.some.injEq.{u}
abbrev mf.{u}:=@List.getElem_mem.{u}
abbrev mg.{u}:=@List.mem_of_mem_take.{u}
abbrev mh:=@decide_eq_true
abbrev mo.{u}:=@List.getElem?_eq_none.{u}
abbrev mr:=@decide_eq_false
abbrev ng:=@Go.Proofs.Tryz.underlying269
abbrev ni:=@Go.run_underlying
abbrev nk:=@Nat.add_assoc
abbrev nu:=@Nat.zero_add
abbrev ny:=@Go.Sem.run_pure
abbrev nz:=@Int.mul_le_mul_of_nonneg_right
abbrev og.{u}:=@List.getElem?_take.{u}
abbrev oh.{u}:=@Option.getD_some.{u}
abbrev ol.{u}:=@List.mem_filter.{u}
abbrev oq.{u}:=@List.Pairwise.imp_of_mem.{u}
abbrev ou.{u}:=@List.drop_of_length_le.{u}
abbrev ow.{u}:=@List.getElem?_take_of_lt.{u}
abbrev oz:=@Go.Proofs.Tryz.underlying352
abbrev pg:=@Go.Proofs.Tryz.underlying360
abbrev pq.{u}:=@List.mem_of_mem_drop.{u}
abbrev pu:=@Bool.and_eq_true
abbrev pz:=@Int.emod_eq_of_lt
abbrev qa.{u}:=@List.filter_cons_of_pos.{u}
abbrev qb.{u}:=@List.pairwise_singleton.{u}
abbrev qc.{u}:=@List.singleton_append.{u}
abbrev qd.{u}:=@Array.getElem?_eq_getElem.{u}
abbrev qf:=@Int.toNat_of_nonneg
abbrev qg.{u}:=@List.flatten_append.{u}
abbrev qh.{u}:=@List.length_reverse.{u}
abbrev qi:=@Go.Proofs.Tryz.underlying47
abbrev qj:=@Go.Proofs.Tryz.underlying256
abbrev ql.{u}:=@List.size_toArray.{u}
abbrev qm.{u}:=@List.getElem?_drop.{u}
abbrev qo:=@Nat.add_zero
abbrev qp:=@Nat.zero_le
abbrev qw:=@Go.Proofs.Tryz.underlying123
abbrev qx:=@Nat.le_trans
abbrev qy:=@Nat.mul_one
abbrev qz:=@Go.Proofs.Tryz.func30
abbrev rf:=@Nat.sub_add_cancel
abbrev rq:=@Go.Proofs.Tryz.underlying281
abbrev ry.{u}:=@Array.getElem?_toList.{u}
abbrev rz:=@Go.Proofs.Tryz.func31
abbrev si.{u,v}:=@List.map_nil.{u,v}
abbrev sj:=@decide_eq_false_iff_not
abbrev su:=@Int.mul_assoc
abbrev sw.{u}:=@List.flatten_cons.{u}
abbrev tq.{u,v}:=@List.getElem?_map.{u,v}
abbrev uf.{u}:=@List.take_add_one.{u}
abbrev ug:=@Go.Proofs.Tryz.underlying106
abbrev uh:=@Go.Proofs.Tryz.underlying250
abbrev ui.{u}:=@List.filter_append.{u}
abbrev uj.{u,v}:=@List.map_toArray.{u,v}
abbrev uk.{u}:=@List.append_toArray.{u}
abbrev ul.{u}:=@List.filter_sublist.{u}
abbrev um.{u}:=@List.length_flatten.{u}
abbrev uo.{u}:=@List.ext_getElem?.{u}
abbrev uq.{u,v,w}:=@getElem!_pos.{u,v,w}
abbrev ut:=@Nat.mul_le_mul_right
abbrev uu:=@Go.Proofs.Tryz.underlying277
abbrev uy:=@Go.Proofs.Tryz.underlying279
abbrev uz:=@Int.pow_zero
abbrev ve.{u}:=@List.take_length.{u}
abbrev vg.{u}:=@Array.toList_append.{u}
abbrev vk:=@Decidable.not_not
abbrev vo:=@Nat.lt_trichotomy
abbrev vw.{u}:=@Array.getElem?_modify.{u}
abbrev vz:=@Int.pow_nonneg
abbrev wh:=@Int.pow_succ
abbrev wo.{u}:=@List.nodup_cons.{u}
abbrev wu:=@Nat.add_comm
abbrev ww:=@Bool.false_eq_true
abbrev wz.{u}:=@Array.replicate_succ.{u}
abbrev xc.{u}:=@Array.replicate_zero.{u}
abbrev xe.{u}:=@List.all_eq_true.{u}
abbrev xg.{u}:=@List.ext_getElem.{u}
abbrev xh:=@List.nodup_range
abbrev xk.{u}:=@if_false.{u}
abbrev xm.{u}:=@Array.getD_eq_getD_getElem?.{u}
abbrev xq:=@Go.Proofs.Tryz.underlying139
abbrev xu:=@Go.Proofs.Tryz.underlying262
abbrev xw.{u}:=@List.drop_eq_nil_of_le.{u}
abbrev xx.{u}:=@List.getElem?_set.{u}
abbrev xz.{u}:=@List.nodup_append.{u}
abbrev yc.{u}:=@List.take_zero.{u}
abbrev yf:=@Nat.add_mul
abbrev yg.{u}:=@List.perm_append_comm.{u}
abbrev yh:=@Nat.eq_of_beq_eq_true
abbrev yj:=@decide_eq_decide
abbrev yl:=@Int.add_zero
abbrev ym.{u}:=@List.sum_cons.{u}
abbrev yo:=@Nat.sub_zero
abbrev yt.{u,v}:=@Prod.mk.injEq.{u,v}
abbrev yu.{u}:=@List.getElem_take.{u}
abbrev yw.{u}:=@List.push_toArray.{u}
abbrev yx:=@decide_eq_true_eq
abbrev yz.{u}:=@Array.getElem?_setIfInBounds.{u}
abbrev za:=@Nat.min_eq_left
abbrev ze:=@Nat.mod_lt
abbrev zf.{u}:=@Array.getElem?_eq_none.{u}
abbrev zg.{u,v,w}:=@List.map_map.{u,v,w}
abbrev zh:=@Nat.sub_self
abbrev zi.{u}:=@List.not_mem_nil.{u}
abbrev zk:=@BitVec.toNat_ofInt
abbrev zl.{u}:=@List.take_left.{u}
abbrev zm:=@Nat.mod_eq_sub_mod
abbrev zo.{u}:=@Array.getElem?_append.{u}
abbrev zq:=@Int.ediv_lt_of_lt_mul
abbrev zt.{u}:=@List.length_filter_le.{u}
abbrev zu:=@Bool.or_eq_true
abbrev zw:=@List.range_succ
abbrev zx:=@Int.mul_one
abbrev zy:=@Int.pow_add
abbrev zz.{u}:=@List.drop_sublist.{u}
abbrev Aa:=@Nat.one_mul
abbrev Ae:=@Go.Region.noSelect_spec
abbrev Af:=@Go.run_sliceAt_slice
abbrev Ag:=@true_and
abbrev Ah:=@Go.Proofs.Tryz.underlying4
abbrev Ai:=@Go.Proofs.Tryz.underlying84
abbrev Aj:=@Go.Addr.mk.injEq
abbrev Ak:=@Go.Proofs.Tryz.underlying146
abbrev Al:=@List.getElem?_range
abbrev Am:=@Int.mul_nonneg
abbrev Ao:=@Int.natCast_emod
abbrev Aq.{u}:=@List.getElem?_replicate.{u}
abbrev Ar.{u}:=@List.length_eq_zero_iff.{u}
abbrev Au:=@and_true
abbrev Av:=@Int.le_ediv_iff_mul_le
abbrev Ay:=@Nat.mul_comm
abbrev Az:=@Go.Proofs.Tryz.underlying167
abbrev Ba:=@Int.natCast_mul
abbrev Bb.{u,v}:=@Option.map_none.{u,v}
abbrev Bc:=@Go.callsIn_of_wp
abbrev Be:=@Go.Proofs.Tryz.underlying117
abbrev Bf:=@Go.wpIn_mono
abbrev Bg.{u}:=@List.Perm.append_left.{u}
abbrev Bh.{u}:=@List.getElem_drop.{u}
abbrev Bi:=@Go.Proofs.Tryz.zeroValue167
abbrev Bj:=@of_decide_eq_true
abbrev Bl:=@Go.DataW.trod_int
abbrev Bn:=@Int.fdiv_eq_ediv_of_nonneg
abbrev Bo.{u}:=@List.mem_append_left.{u}
abbrev Bp:=@Int.natCast_zero
abbrev Bq:=@Go.IntKind.wrap_i64
abbrev Br.{u,v}:=@List.getElem_map.{u,v}
abbrev Bt.{u}:=@List.mem_flatten.{u}
abbrev Bu.{u}:=@List.mem_reverse.{u}
abbrev Bv:=@Nat.le_add_right
abbrev Bw:=@Go.Region.free_spec
abbrev Bz:=@Go.Proofs.Tryz.underlying3
abbrev Ca.{u}:=@List.countP_eq_zero.{u}
abbrev Cb.{u}:=@List.drop_succ_cons.{u}
abbrev Cc.{u}:=@List.getElem_set_ne.{u}
abbrev Ce.{u,v}:=@List.map_congr_left.{u,v}
abbrev Cf:=@Bool.not_true
abbrev Cg.{u}:=@List.length_erase_of_mem.{u}
abbrev Ch.{u,v}:=@List.map_take.{u,v}
abbrev Ci:=@UInt8.toNat_ofNat_of_lt'
abbrev Cj:=@Go.Proofs.Tryz.underlying167
abbrev Ck:=@Go.Proofs.Tryz.underlying248
abbrev Cm:=@Go.IntKind.wrap_u8
abbrev Cn.{u}:=@List.sum_append.{u}
abbrev Co:=@Go.Result.ok.injEq
abbrev Cq:=@Go.Proofs.Tryz.zeroValue3
abbrev Cr:=@List.getElem_range
abbrev Cs:=@Nat.lt_or_gt_of_ne
abbrev Cu:=@Nat.mul_div_cancel
abbrev Cv.{u}:=@Option.toList_some.{u}
abbrev Cw:=@Go.Proofs.Tryz.underlying112
abbrev Cx:=@Go.Proofs.Tryz.underlying123
abbrev Cy.{u}:=@List.getElem?_cons_succ.{u}
abbrev Cz.{u,v}:=@Option.bind_eq_some_iff.{u,v}
abbrev Da:=@Go.Proofs.Tryz.func62
abbrev Db:=@Go.Proofs.Tryz.underlying9
abbrev Dc.{u}:=@List.set_eq_take_append_cons_drop.{u}
abbrev De:=@Int.le_of_lt
abbrev Dg:=@Int.mul_comm
abbrev Dh.{u}:=@List.Perm.append_right.{u}
abbrev Di.{u}:=@List.drop_zero.{u}
abbrev Dj.{u,v}:=@List.flatMap_cons.{u,v}
abbrev Dk.{u}:=@List.isEmpty_cons.{u}
abbrev Dl.{u}:=@List.length_pos_of_mem.{u}
abbrev Dm:=@List.length_range
abbrev Dn.{u}:=@List.not_of_lt_findIdx.{u}
abbrev Dp:=@Nat.le_mul_of_pos_left
abbrev Dq:=@Nat.mul_le_mul
abbrev Dr:=@Nat.zero_mul
abbrev Dt:=@Go.Proofs.Tryz.sizeOf167
abbrev Du:=@Go.Proofs.Tryz.zeroValue112
abbrev Dv:=@Go.Proofs.Tryz.zeroValue123
abbrev Dw:=@not_false_eq_true
abbrev Dx.{u}:=@List.replicate_append_replicate.{u}
abbrev Dy.{u}:=@List.countP_mono_left.{u}
abbrev Dz.{u}:=@List.set_append_right.{u}
abbrev Ea:=@Nat.and_two_pow_sub_one_eq_mod
abbrev Eb:=@Nat.div_eq_of_lt
abbrev Ec:=@Go.Proofs.Tryz.underlying0
abbrev Ed:=@Go.Proofs.Tryz.underlying4
abbrev Ee:=@Go.Proofs.Tryz.underlying5
abbrev Ef:=@Go.Proofs.Tryz.underlying9
abbrev Eg:=@Go.mem_ready
abbrev Eh:=@Bool.false_or
abbrev Ei:=@Go.Proofs.Tryz.isAgg167
abbrev Ej:=@Go.Proofs.Tryz.underlying185
abbrev El:=@Go.Proofs.Tryz.underlying350
abbrev Em.{u}:=@Classical.not_forall.{u}
abbrev En:=@Int.mul_le_mul_of_nonneg_left
abbrev Eo:=@Int.pow_pos
abbrev Ep.{u}:=@List.findIdx_getElem.{u}
abbrev Er.{u}:=@List.getElem_reverse.{u}
abbrev Es.{u}:=@List.mem_erase_of_ne.{u}
abbrev Et.{u}:=@List.take_append_of_le_length.{u}
abbrev Eu:=@Nat.le_succ
abbrev Ev:=@Nat.pow_le_pow_right
abbrev Ew:=@Int.ediv_nonneg
abbrev Ex:=@Int.min_eq_left
abbrev Ey:=@Int.natCast_pow
abbrev Ez.{u}:=@List.drop_left'.{u}
abbrev Fa.{u}:=@List.length_set.{u}
abbrev Fb.{u}:=@List.take_left'.{u}
abbrev Fe:=@Go.Proofs.Tryz.zeroValue0
abbrev Ff:=@Go.Proofs.Tryz.zeroValue4
abbrev Fg:=@Go.Proofs.Tryz.zeroValue5
abbrev Fh:=@Go.Proofs.Tryz.zeroValue9
abbrev Fj.{u}:=@List.filter_eq_self.{u}
abbrev Fp.{u}:=@List.take_succ_cons.{u}
abbrev Fq:=@Go.run_callFunc_extern
abbrev Fs:=@Int.sub_self
abbrev Fu.{u}:=@List.attach_map_subtype_val.{u}
abbrev Fv:=@Nat.succ_mul
abbrev Fw:=@Nat.two_pow_add_eq_or_of_lt
abbrev Fx.{u}:=@Ne.symm.{u}
abbrev Fy:=@Go.Proofs.Tryz.sizeOf3
abbrev Fz.{u}:=@if_true.{u}
abbrev Ga:=@Go.run_call_add
abbrev Gb:=@Go.Proofs.Tryz.underlying76
abbrev Gc:=@Go.RowKit.Below.refl
abbrev Gf:=@Int.lt_or_eq_of_le
abbrev Gg.{u}:=@List.drop_drop.{u}
abbrev Gh.{u}:=@List.drop_left.{u}
abbrev Gi.{u}:=@List.set_cons_zero.{u}
abbrev Gj:=@Go.Proofs.Tryz.sizeOf112
abbrev Gl:=@Go.Proofs.Tryz.sizeOf123
abbrev Gm:=@Go.Proofs.Tryz.underlying288
abbrev Gn:=@Go.Proofs.Tryz.underlying289
abbrev Gp:=@Go.Proofs.Tryz.underlying316
abbrev Gq:=@Go.Proofs.Tryz.underlying320
abbrev Gr:=@Go.Proofs.Tryz.underlying337
abbrev Gs:=@Go.Proofs.Tryz.underlying338
abbrev Gt:=@Go.grownCap_le_maxLen
abbrev Gu:=@Go.ready_mono
abbrev Gv.{u}:=@Array.all_eq_true.{u}
abbrev Gw.{u}:=@Array.getElem_mem.{u}
abbrev Gx.{u}:=@List.countP_congr.{u}
abbrev Gy.{u,v}:=@List.foldl_append.{u,v}
abbrev Gz.{u}:=@List.idxOf_append.{u}
abbrev Ha:=@Go.Proofs.Tryz.func36
abbrev Hd:=@Go.Proofs.Tryz.func84
abbrev He:=@Go.Proofs.Tryz.isAgg3
abbrev Hf:=@Go.Proofs.Tryz.underlying97
abbrev Hg:=@Go.Proofs.Tryz.zeroValue288
abbrev Hl:=@Go.Proofs.Tryz.zeroValue289
abbrev Hm:=@Go.Proofs.Tryz.zeroValue316
abbrev Ho:=@Go.Proofs.Tryz.zeroValue320
abbrev Hq:=@Go.Proofs.Tryz.zeroValue337
abbrev Hr:=@Go.Proofs.Tryz.zeroValue338
abbrev Ht.{u}:=@List.all_cons.{u}
abbrev Hu.{u,v}:=@List.map_drop.{u,v}
abbrev Hw.{u}:=@List.take_add.{u}
abbrev Hy:=@Go.Proofs.Tryz.isAgg112
abbrev Hz:=@Go.Proofs.Tryz.isAgg123
abbrev Ia:=@Go.Proofs.Tryz.underlying114
abbrev Ib:=@Go.Proofs.Tryz.underlying203
abbrev Ic:=@Go.Proofs.Tryz.underlying221
abbrev Ie:=@Int.ediv_le_self
abbrev Ig:=@Go.IntKind.wrap_u64
abbrev Ih.{u}:=@List.drop_length.{u}
abbrev Ii.{u}:=@List.flatten_nil.{u}
abbrev Ij.{u,v}:=@List.map_reverse.{u,v}
abbrev Ik.{u,v}:=@List.mem_flatMap.{u,v}
abbrev Il:=@Go.Proofs.Tryz.zeroValue97
abbrev Im:=@Int.le_trans
abbrev Io:=@Int.sub_zero
abbrev Ip:=@Int.zero_mul
abbrev Iq.{u}:=@List.sum_nil.{u}
abbrev Ir:=@Nat.not_lt
abbrev Iu:=@Go.Proofs.Tryz.func130
abbrev Iw:=@Go.Proofs.Tryz.func134
abbrev Iy:=@Go.Proofs.Tryz.func149
abbrev Iz:=@Go.Proofs.Tryz.func158
abbrev Ja:=@Go.Proofs.Tryz.func159
abbrev Jb:=@Go.Proofs.Tryz.func161
abbrev Jc:=@Go.Proofs.Tryz.func166
abbrev Jd:=@Go.Proofs.Tryz.func194
abbrev Je:=@Go.Proofs.Tryz.sizeOf0
abbrev Jf:=@Go.Proofs.Tryz.sizeOf4
abbrev Jg:=@Go.Proofs.Tryz.sizeOf5
abbrev Jh:=@Go.Proofs.Tryz.sizeOf9
abbrev Ji:=@Go.setRow_other
abbrev Jj:=@BitVec.toNat_or
abbrev Jk.{u}:=@List.cons.injEq.{u}
abbrev Jm:=@Go.run_loadVar_row
abbrev Jn:=@Go.wpIn_region_any
abbrev Jo:=@Int.add_mul
abbrev Jp:=@Int.mul_add
abbrev Jq:=@Nat.add_mod
abbrev Jr:=@Nat.mul_pos
abbrev Js:=@Go.Proofs.Tryz.func41
abbrev Jt:=@Go.Proofs.Tryz.func46
abbrev Ju:=@Go.Proofs.Tryz.func58
abbrev Jv:=@Go.Proofs.Tryz.func61
abbrev Jw:=@Go.Proofs.Tryz.func63
abbrev Jy:=@Go.Proofs.Tryz.func64
abbrev Jz:=@Go.Proofs.Tryz.func66
abbrev Ka:=@Go.Proofs.Tryz.func74
abbrev Kb:=@Go.Proofs.Tryz.func91
abbrev Kc:=@Go.Proofs.Tryz.isAgg0
abbrev Ke:=@Go.Proofs.Tryz.isAgg4
abbrev Kg:=@Go.Proofs.Tryz.isAgg5
abbrev Kh:=@Go.Proofs.Tryz.isAgg9
abbrev Ki:=@Go.setRow_heap
abbrev AD:=List (List Int)
abbrev AE:=List (Int × Int)
abbrev AF:=Option Addr
abbrev AG:=List Value
abbrev AH:=List Int
abbrev AI:=Array Bool
theorem G{p:Prop}(h:p:=by omega):p:=h
theorem cA{p:Prop}(h:p:=by kernel_rfl):p:=h
theorem cC{p:Prop}(h:p:=by decide):p:=h
theorem cD{p:Prop}(h:p:=by simp):p:=h
theorem cE{p:Prop}(h:p:=by first |assumption|omega|decide):p:=h
theorem cF{p:Prop}(h:p:=by assumption):p:=h
theorem cG{p:Prop}(h:p:=by first |omega|(dsimp only;omega)):p:=h
theorem cH{p:Prop}(h:p:=by simp;omega):p:=h
end Go
namespace Go.Eng
theorem Z.{u} {α:Sort u} {a:α}:a=a:=rfl
end Go.Eng
namespace Go.Eng
open Go Go.RowKit
abbrev Env:=List (Nat × Value)
def lk:Env->Nat->Option Value
 |[],_=>none
 |(k,v)::r,t=>bif Nat.beq k t then some v else lk r t
def ev (L:Env):Operand->Option Value
 | .tmp t=>lk L t
 | .const v=>some v
 | .global g=>some (.pointer (some ⟨g,0,none⟩))
 | .func f=>some (.func (.func f) #[] #[])
structure Nd where
 n:Nat
 ds:List Deferred
 rd:Option Nat:=none
def NF (rd:Option Nat):Fence:= {Fence.wide with round:=rd}
def CW (o:Oper):Bool:=match o.op with| .defer _=>false|_=>true
def yT:Option Nat->List Oper->Bool
 |none,_=>true
 |some _,l=>l.all CW
theorem aUz {P:Program} {rd:Option Nat} {o:Oper} {a:Act} {w:World} {K:Act->World->Prop} {Q:Exit->Act->World->Prop} (hd:rd=none\/CW o=true) (h:o.wp P a w K Q):o.wpIn (NF rd) 0 P a w K Q:=by
  refine⟨λ_ _=>trivial,?_⟩
  have e:o.semAt (NF rd).round a.eval=execOp a.eval o:=by
    rcases hd with rfl|hd
    · exact Oper.semAt_none _ _
    · exact Oper.semAt_eq _ _ _ (λc hc=>by simp[CW,hc] at hd)
  rw[e];unfold Oper.wp at h;generalize (execOp a.eval o).run P w=r at*;cases r with
  | ok x w'=>
    cases x<;>simp only[Oper.upon,Oper.uponIn] at h ⊢
    all_goals first
      |exact h
      |exact h.elim
      | (refine ⟨λh0=>(by cases h0),?_⟩
         exact callsIn_wide (n:=0).2 h)
      | (refine ⟨λh0=>(by cases h0),?_⟩
         intro c cs _;obtain⟨v,Ms,hR,hs⟩:=h c cs
         exact⟨v,Ms,hR,stepsIn_wide.2 hs⟩)
  |halt x w'=>cases x<;>simp only[Oper.upon,Oper.uponIn] at h ⊢ <;>exact h
theorem aGd {P:Program} {rd:Option Nat} {ops:Array Oper} {Q:Exit->Act->World->Prop} (hq: ¬LetsOut Q): ∀(l:List Oper) (a:Act) (w:World),yT rd l=true->wpList P ops Q l a w->wpListIn (NF rd) 0 P ops Q l a w
 |[],_,_,_,h=>h
 | o::l,a,w,hd,h=>by
  have Fd:rd=none\/CW o=true:=by
   cases rd with
   |none=>exact .inl rfl
   |some _=>simp only[yT,Ht,pu] at hd;exact .inr hd.1
  have Ow:yT rd l=true:=by
   cases rd with
   |none=>rfl
   |some _=>simp only[yT,Ht,pu] at hd;exact hd.2
  unfold wpList at h;unfold wpListIn;split
  ·rename_i hw;rw[df hw] at h;rcases h with h|h
   ·exact aUz Fd (Oper.wp_mono (λa w h=>aGd hq l a w Ow h) h)
   ·exact absurd h.2 hq
  ·rename_i hw;rw[bz hw] at h;exact⟨λ_ _=>trivial,aGd hq l _ _ Ow h⟩
theorem TZ {P:Program} {rd:Option Nat} {ops:Array Oper} {Q:Exit->Act->World->Prop} (hq: ¬LetsOut Q) (hd:yT rd ops.toList=true): ∀(al:Nat) (ab:AI) (a:Act) (w:World),wpAny P .any ops Q al ab a w->wpAnyIn (NF rd) 0 P .any ops Q al ab a w
 |0,_,_,_,h=>h
 | al+1,ab,a,w,h=>by
  refine⟨h.1,λi hi=> ?_⟩;have h1:=h.2 i hi;unfold wpOp at h1;unfold wpOpIn;cases ho:ops[i]? with
  |none=>simp only[ho] at h1 ⊢;exact TZ hq hd al _ _ _ h1
  | some o=>
   simp only[ho] at h1 ⊢
   have Fd:rd=none\/CW o=true:=by
    cases rd with
    |none=>exact .inl rfl
    |some _=>exact .inr (xe.1 hd o (Array.mem_toList_iff.2 (Array.mem_of_getElem? ho)))
   split
   ·rename_i hw;rw[df hw] at h1;rcases h1 with h1|h1
    ·exact aUz Fd (Oper.wp_mono (λa w h=>TZ hq hd al _ a w h) h1)
    ·exact absurd h1.2 hq
   ·rename_i hw;rw[bz hw] at h1;exact⟨λ_ _=>trivial,TZ hq hd al _ _ _ h1⟩
instance:Coe Nd Nat:=⟨Nd.n⟩
instance:Coe Nat Nd:=⟨λn=>⟨n,[],none⟩⟩
structure Sat (n:Nd) (L:Env) (a:Act):Prop where
 size:a.tmps.size=n.n
 defers:a.defers=n.ds
 val: ∀t v,lk L t=some v->a.tmps[t]? =some v
theorem Sat.getD {n:Nd} {L:Env} {a:Act} (h:Sat n L a) {t:Nat} {v:Value} (hx:lk L t=some v):a.tmps.getD t undef=v:=by
 rw[xm,h.val t v hx];rfl
theorem Sat.ev {n:Nd} {L:Env} {a:Act} (h:Sat n L a) {x:Operand} {v:Value} (hx:ev L x=some v):a.eval x=v:=by
 cases x with
 |tmp t=>exact h.getD hx
 |const u=>exact jc hx
 |global g=>exact jc hx
 |func f=>exact jc hx
theorem yB {L:Env} {k t:Nat} {v u:Value} (h:lk ((k,v)::L) t=some u):(k=t/\v=u)\/(k≠t/\lk L t=some u):=by
 unfold lk at h;cases hb:Nat.beq k t with
 |true=>rw[hb] at h;exact .inl ⟨yh hb,jc h⟩
 |false=>rw[hb] at h;exact .inr ⟨Nat.ne_of_beq_eq_false hb,h⟩
theorem Sat.put {n:Nd} {L:Env} {a:Act} (h:Sat n L a) {d:Nat} (hd:Nat.blt d n=true) (v:Value):Sat n ((d,v)::L) (a.put (some d) v):=by
 have Yh:d<n:=au hd;refine⟨by simp[Act.put,h.size],by simp[Act.put,h.defers],λt u hu=> ?_⟩;rcases yB hu with⟨rfl,rfl⟩|⟨fd,hl⟩
 ·simp[Act.put,h.size,Yh]
 ·rw [<-h.val t u hl];simp[Act.put,fd]
def Sub (L1 L:Env):Prop:= ∀t v,lk L1 t=some v->lk L t=some v
theorem Sub.nil {L:Env}:Sub [] L:=λt v h=>by simp[lk] at h
theorem Sub.cons {L1 L:Env} {t:Nat} {v:Value} (h:lk L t=some v) (hs:Sub L1 L):Sub ((t,v)::L1) L:=by
 intro s u hu;rcases yB hu with⟨rfl,rfl⟩|⟨_,hl⟩
 ·exact h
 ·exact hs s u hl
theorem Sub.refl (L:Env):Sub L L:=λ_ _ h=>h
theorem Sat.sub {n:Nd} {L L1:Env} {a:Act} (h:Sat n L a) (hs:Sub L1 L):Sat n L1 a:=⟨h.size,h.defers,λt v ht=>h.val t v (hs t v ht)⟩
structure Row where
 e:TypeId
 sz:Nat
 A:AF
 n:Nat
 c:Nat
 xs:AG
 ro:Bool:=false
def Row.lies (B:Nat) (w:World) (r:Row):Prop:=
 match r.ro with
 |false=>w.ownsRow B r.e r.sz (.slice r.A r.n r.c) r.n r.xs
 |true=> ∃g cur fr,r.A=some ⟨g,0,none⟩/\B<=g/\w.heap[g]? =some (.cells cur r.e fr)/\r.n<=maxLen/\r.n<=r.c/\r.xs.length=r.n*r.sz/\cur.toList.take (r.n*r.sz)=r.xs
def Row.apart (r r':Row):Prop:= ∀a a',r.A=some a->r'.A=some a'->a.block≠a'.block
theorem Row.apart_symm {r r':Row} (h:r.apart r'):r'.apart r:=λa a' h1 h2=>Fx (h a' a h2 h1)
def aAv:Obj->Bool
 | .cells .. =>false
 |_=>true
def Late (w0 w:World):Prop:=w0.drawn<=w.drawn/\ ∀(k:Nat) (o:Obj),w0.heap[k]? =some o->aAv o=true->w.heap[k]? =some o
theorem Late.refl (w:World):Late w w:=⟨di _,λ_ _ h _=>h⟩
theorem Late.trans {w0 w w':World} (h:Late w0 w) (h':Late w w'):Late w0 w':=⟨qx h.1 h'.1,λk o h1 h2=>h'.2 k o (h.2 k o h1 h2) h2⟩
theorem Late.draws {w:World} {k:Nat} (h:w.drawn<=k):Late w {w with drawn:=k}:=⟨h,λ_ _ h _=>h⟩
theorem Late.alloc (w:World) (o:Obj):Late w (w.alloc o):=⟨di _,λk _ h _=>by
 have bc:k<w.heap.size:=(gm.1 h).1;unfold World.alloc;rw[Array.getElem?_push,bz G]
 exact h⟩
structure Hp (B:Nat) (w0 w:World) (R:List Row):Prop where
 below:Below B w0 w
 base:B<=w.heap.size
 own: ∀r∈R,r.lies B w
 apart:R.Pairwise Row.apart
 late:Late w0 w
theorem Hp.refl (w:World):Hp w.heap.size w w []:=⟨Gc _ _,di _,λ_ h=>(by cases h), .nil,Late.refl _⟩
theorem Hp.tail {B:Nat} {w0 w:World} {r:Row} {R:List Row} (h:Hp B w0 w (r::R)):Hp B w0 w R:=
 ⟨h.below,h.base,λq hq=>h.own q (.tail _ hq),(jb.1 h.apart).2,h.late⟩
theorem Hp.right {B:Nat} {w0 w:World} {R' R:List Row} (h:Hp B w0 w (R'++R)):Hp B w0 w R:=by
 induction R' with
 |nil=>exact h
 |cons r R' ih=>exact ih h.tail
theorem Hp.perm {B:Nat} {w0 w:World} {R R':List Row} (h:Hp B w0 w R) (hp:R.Perm R'):Hp B w0 w R':=
 ⟨h.below,h.base,λq hq=>h.own q (hp.mem_iff.2 hq),hp.pairwise h.apart Row.apart_symm,h.late⟩
theorem Hp.sublist {B:Nat} {w0 w:World} {R R':List Row} (h:Hp B w0 w R) (hs:R'.Sublist R):Hp B w0 w R':=
 ⟨h.below,h.base,λq hq=>h.own q (hs.subset hq),h.apart.sublist hs,h.late⟩
theorem Hp.sel {B:Nat} {w0 w:World} {R:List Row} (h:Hp B w0 w R) (is:List Nat) (hn:is.Nodup) {R':List Row} (hR:is.map (λi=>R[i]?)=R'.map some):Hp B w0 w R':=by
 refine⟨h.below,h.base,λq hq=> ?_,?_,h.late⟩
 ·have h1:some q∈R'.map some:=iy.2 ⟨q,hq,rfl⟩;rw[<-hR] at h1;obtain⟨i,_,hi⟩:=iy.1 h1;exact h.own q (fw hi)
 ·have h1:(R'.map some).Pairwise (λx y=> ∀r r',x=some r->y=some r'->Row.apart r r'):=by
   rw[<-hR];refine iw.2 (hn.imp ?_);intro i j fd r r' hi hj;rcases Cs fd with bc|bc
   ·exact dn.1 h.apart i j (dw.1 hi).1 (dw.1 hj).1 bc|>λhh=>by
     rw[(dw.1 hi).2,(dw.1 hj).2] at hh;exact hh
   ·exact Row.apart_symm (dn.1 h.apart j i (dw.1 hj).1 (dw.1 hi).1 bc|>λhh=>by
     rw[(dw.1 hi).2,(dw.1 hj).2] at hh;exact hh)
  exact(iw.1 h1).imp λhh=>hh _ _ rfl rfl
theorem Hp.drawn {B:Nat} {w0 w:World} {R:List Row} (h:Hp B w0 w R) (k:Nat) (hk:w.drawn<=k):Hp B w0 {w with drawn:=k} R:=
 ⟨⟨h.below.os,h.below.tape,h.below.output,h.below.size,h.below.block⟩,h.base,λr hr=>by
  have:=h.own r hr;unfold Row.lies at*
  cases pk:r.ro<;>simp only[pk] at this ⊢ <;>exact this,h.apart,h.late.trans (Late.draws hk)⟩
theorem Row.lies_cells {B:Nat} {w:World} {r:Row} (h:r.lies B w) {a:Addr} (ha:r.A=some a): ∃cs e fr,w.heap[a.block]? =some (.cells cs e fr):=by
 unfold Row.lies at h;cases pk:r.ro with
 | false=>
  simp only[pk] at h;rcases h.2 with⟨hv,_⟩|⟨g,cap,cur,hv,_,hg,_⟩
  ·simp only[ku] at hv;rw[hv.1] at ha;cases ha
  ·simp only[ku] at hv;rw[hv.1] at ha;obtain rfl:=jc ha;exact⟨_,_,_,hg⟩
 |true=>
  simp only[pk] at h;obtain⟨g,cur,fr,hA,_,hg,_⟩:=h;rw[hA] at ha;obtain rfl:=jc ha;exact⟨_,_,_,hg⟩
theorem Row.lies_of_block {B:Nat} {w w':World} {r:Row} (h:r.lies B w) (hk: ∀a,r.A=some a->w'.heap[a.block]? =w.heap[a.block]?):r.lies B w':=by
 unfold Row.lies at*;cases pk:r.ro with
 | false=>
  simp only[pk] at h ⊢;refine⟨h.1,?_⟩;rcases h.2 with hn|⟨g,cap,cur,hv,hb,hg,rest⟩
  ·exact .inl hn
  ·refine .inr ⟨g,cap,cur,hv,hb,?_,rest⟩;have hA:r.A=some ⟨g,0,none⟩:=by injection hv
   rw[hk _ hA];exact hg
 |true=>
  simp only[pk] at h ⊢;obtain⟨g,cur,fr,hA,hb,hg,rest⟩:=h;exact⟨g,cur,fr,hA,hb,by rw[hk _ hA];exact hg,rest⟩
theorem Row.lies_lt {B:Nat} {w:World} {r:Row} (h:r.lies B w): ∀a,r.A=some a->B<=a.block/\a.block<w.heap.size:=by
 intro a ha;unfold Row.lies at h;cases pk:r.ro with
 |false=>
  simp only[pk] at h;exact h.lt a.block (by simp[Value.ownBlock,ha])
 |true=>
  simp only[pk] at h;obtain⟨g,cur,fr,hA,hb,hg,_⟩:=h;rw[hA] at ha;obtain rfl:=jc ha;exact⟨hb,(gm.1 hg).1⟩
theorem Hp.join {B:Nat} {w0 w w':World} {R Rn:List Row} (h:Hp B w0 w R) (h':Hp w.heap.size w w' Rn):Hp B w0 w' (Rn++R):=by
 refine⟨h.below.trans (h'.below.mono h.base),qx h.base h'.base,λr hr=> ?_,?_,h.late.trans h'.late⟩
 ·rcases gp.1 hr with hr|hr
  ·have h1:=h'.own r hr;unfold Row.lies at*;cases pk:r.ro with
   |false=>
    simp only[pk] at h1 ⊢;refine⟨h1.1,?_⟩;rcases h1.2 with hn|⟨g,cap,cur,hv,hb,rest⟩
    ·exact .inl hn
    ·exact .inr ⟨g,cap,cur,hv,qx h.base hb,rest⟩
   |true=>
    simp only[pk] at h1 ⊢;obtain⟨g,cur,fr,hA,hb,rest⟩:=h1;exact⟨g,cur,fr,hA,qx h.base hb,rest⟩
  ·have h1:=h.own r hr;exact Row.lies_of_block h1 λa ha=>h'.below.block a.block (Row.lies_lt h1 a ha).2
 ·refine kz.2 ⟨h'.apart,h.apart,λr hr q hq a a' ha oe=> ?_⟩;have h1:=(Row.lies_lt (h'.own r hr) a ha).1;have h2:=(Row.lies_lt (h.own q hq) a' oe).2;omega
theorem PC {α:Type}: ∀(a:Ask α) (w:World),w.drawn<=(w.ask a).2.drawn
 | .done _,_=>di _
 | .ask what range k,w=>by
  unfold World.ask;simp only;split
  ·exact PC _ _
  ·exact qx (Eu _) (PC _ {w with drawn:=w.drawn+1})
theorem aSu (w:World) (c:Sys):w.drawn<=(w.sys c).2.drawn:=by
 have h:=PC (Kernel.perform c w.os) w;unfold World.sys;split
 ·exact di _
 ·rename_i he;rw[he] at h;exact h
theorem bDw {ε α β:Type} {x:Except ε α} {f:α->Except ε β} {r:β} (h:Except.bind x f= .ok r): ∃a,f a= .ok r:=by
 cases x with
 |error e=>cases h
 |ok a=>exact⟨a,h⟩
theorem aMg {P:Program} {w:World} {b a:Addr} {u:TypeId} {v:Value} {c:Bool} {r:World × List Addr} (h:w.viewStore P b u a v c= .ok r):r.1.drawn=w.drawn:=by
 unfold World.viewStore at h;simp only[bind,pure,Except.pure] at h
 repeat' first
  |(cases h;done)
  |(split at h)
  |(replace h:=bDw h;cases h;rename_i h)
 all_goals (simp only[Except.ok.injEq] at h;rw[<-h])
theorem aXa {P:Program} {w:World} {a:Addr} {v:Value} {b:Bool} {r:World × List Addr} (h:w.farStore P a v b= .ok r):r.1.drawn=w.drawn:=by
 unfold World.farStore at h;split at h
 ·split at h
  ·rename_i hv;simp only[Except.ok.injEq] at h;rw[<-h];exact aMg hv
  ·cases h
 ·cases h
theorem LF {α:Type} {P:Program}: ∀(m:Sem α) (w w':World) (a:α),m.run P w= .ok a w'->w.drawn<=w'.drawn:=by
  intro m
  induction m with
  |pure a=>intro w w' b h;simp only[Sem.run,Co] at h;rw[h.2];exact di _
  | load m a k ih=>
    intro w w' b h;simp only[Sem.run] at h;split at h
    · exact ih _ _ _ _ h
    · split at h
      · exact ih _ _ _ _ h
      · cases h
  | store m a v k ih=>
    intro w w' b h;cases v<;>simp only[Sem.run] at h
    all_goals first
      |(cases h;done)
      | (split at h
         · split at h
           · cases h
           · have h1:=ih _ _ _ h
             exact h1
         · split at h
           · rename_i hf
             have h1:=ih _ _ _ h;have h2:=aXa hf;simp only at h2;rw[h2] at h1;exact h1
           · cases h)
  |new o k ih=>intro w w' b h;have h1:=ih w.heap.size {w with heap:=w.heap.push o} w' b h;exact h1
  |shape r k ih=>intro w w' b h;exact ih _ _ _ _ h
  | freeze a n k ih=>
    intro w w' b h;have:=ih _ _ _ h;have e:(w.freeze a n).drawn=w.drawn:=by unfold World.freeze;split<;>rfl
    rwa[e] at this
  |frozen a k ih=>intro w w' b h;exact ih _ _ _ _ h
  | getObj r k ih=>
    intro w w' b h;simp only[Sem.run] at h;split at h
    · cases h
    · exact ih _ _ _ _ h
    · cases h
  | setObj r o k ih=>
    intro w w' b h;simp only[Sem.run] at h;split at h
    · cases h
    · have h1:=ih _ _ _ h
      exact h1
    · cases h
  | choose q k ih=>
    intro w w' b h;simp only[Sem.run] at h;split at h
    · exact ih _ _ _ _ h
    · exact qx (Eu _) (ih _ _ _ _ h)
  | sys c k ih=>
    intro w w' b h;exact qx (aSu w c) (ih _ _ _ _ h)
  |program k ih=>intro w w' b h;exact ih _ _ _ _ h
  |mark m k ih=>intro w w' b h;exact ih _ _ _ h
  |halt x=>intro w w' b h;cases h
structure Rd (w:World) (A:AF) (n c sz:Nat) (xs:AG):Prop where
 len:xs.length=n*sz
 max:n<=9223372036854775807
 le:n<=c
 at_: ∀j v,xs[j]? =some v-> ∃a,A=some a/\w.cell? (a.add j)=some v
def RdC (B:Nat) (w0:World) (R:List Row) (A:AF) (n c sz:Nat) (xs:AG):Prop:= ∀w,Hp B w0 w R->Rd w A n c sz xs
theorem Rd.below {w w':World} {A:AF} {n c sz:Nat} {xs:AG} (h:Rd w A n c sz xs) (hb:Below w.heap.size w w'):Rd w' A n c sz xs:=
 ⟨h.len,h.max,h.le,λj v hv=>by
  obtain⟨a,ha,hc⟩:=h.at_ j v hv
  exact⟨a,ha,(hb.cell (World.block_lt_of_cell? w _ hc)).trans hc⟩⟩
theorem Rd.c {w:World} {A:AF} {n c sz:Nat} {xs:AG} (h:Rd w A n c sz xs) (R:List Row):RdC w.heap.size w R A n c sz xs:=λ_ hw=>h.below hw.below
theorem Row.rd {B:Nat} {w:World} {r:Row} (h:r.lies B w):Rd w r.A r.n r.c r.sz r.xs:=by
 unfold Row.lies at h;cases pk:r.ro with
 | false=>
  simp only[pk] at h;refine⟨h.1,?_,?_,λj v hv=> ?_⟩
  ·rcases h.2 with⟨_,hn⟩|⟨g,cap,cur,_,_,_,h1,h2,_⟩
   ·omega
   ·unfold maxLen at h2;omega
  ·rcases h.2 with⟨_,hn⟩|⟨g,cap,cur,hv,_,_,h1,h2,_⟩
   ·omega
   ·simp only[ku] at hv;omega
  ·rcases h.2 with⟨Qr,hn⟩|⟨g,cap,cur,Qr,_⟩
   ·have:r.xs.length=0:=by rw[h.1,hn];omega
    rw[mo G] at hv;cases hv
   ·have hA:r.A=some ⟨g,0,none⟩:=by injection Qr
    exact⟨_,hA,h.cells (g:=g) (by simp[Value.ownBlock,hA]) j v hv⟩
 |true=>
  simp only[pk] at h;obtain⟨g,cur,fr,hA,_,hg,hm,hc,hl,ht⟩:=h;unfold maxLen at hm;refine⟨hl,hm,hc,λj v hv=>⟨_,hA,?_⟩⟩;have Lq:(⟨g,0,none⟩:Addr).add j=⟨g,j,none⟩:=by unfold Addr.add;split<;>simp_all
  rw[Lq,cell_of_row w g j cur r.e fr hg];rw[<-ht,og] at hv;split at hv
  ·simpa using hv
  ·cases hv
theorem rdR {B:Nat} {w0:World} {R:List Row} (i:Nat) {r:Row} (hi:R[i]? =some r):RdC B w0 R r.A r.n r.c r.sz r.xs:=λ_ hw=>Row.rd (hw.own r (fw hi))
theorem rdr {B:Nat} {w0:World} {R:List Row} (i:Nat) {e sz:Nat} {A:AF} {n c:Nat} {xs:AG} {ro:Bool} (hi:R[i]? =some ⟨e,sz,A,n,c,xs,ro⟩):RdC B w0 R A n c sz xs:=rdR i hi
theorem RdC.right {B:Nat} {w0:World} {R:List Row} {A:AF} {n c sz:Nat} {xs:AG} (h:RdC B w0 R A n c sz xs) (R':List Row):RdC B w0 (R'++R) A n c sz xs:=λw hw=>h w hw.right
theorem RdC.tail {B:Nat} {w0:World} {R:List Row} {A:AF} {n c sz:Nat} {xs:AG} (h:RdC B w0 R A n c sz xs) {r:Row}:RdC B w0 (r::R) A n c sz xs:=λw hw=>h w hw.tail
structure fC where
 nrm:Env->List Row->Prop
 ret:Env->List Row->Prop
 ext:Nat->Env->List Row->Prop
section
variable {P:Program} {n:Nd} {B:Nat} {w0:World}
def PQ (n:Nd) (B:Nat) (w0:World) (Q:fC):Exit->Act->World->Prop
 | .normal,a,w=> ∃L R,Sat n L a/\Hp B w0 w R/\Q.nrm L R
 | .ret,a,w=> ∃L R,Sat n L a/\Hp B w0 w R/\Q.ret L R
 | .exit i,a,w=> ∃L R,Sat n L a/\Hp B w0 w R/\Q.ext i L R
 |_,_,_=>False
def W (P:Program) (n:Nd) (B:Nat) (w0:World) (c:Code) (Q:fC) (L:Env) (R:List Row):Prop:=
 ∀a w,Sat n L a->Hp B w0 w R->c.wpIn (NF n.rd) 0 P (PQ n B w0 Q) a w
theorem aC {x y:Code} {Q:fC} {L:Env} {R:List Row} (h:W P n B w0 x {Q with nrm:=λL R=>W P n B w0 y Q L R} L R):W P n B w0 (.seq x y) Q L R:=by
 intro a w hs hp;refine wpIn_seq (Bf (h a w hs hp) ?_);intro e a' w' hq;cases e with
 |normal=>obtain⟨L',R',ee,cm,hw⟩:=hq;exact hw a' w' ee cm
 |exit id=>exact hq
 |goto l=>exact hq
 |ret=>exact hq
 |panic ch=>exact hq
 |outgrown=>exact hq
theorem aH {id:Nat} {c:Code} {Q:fC} {L:Env} {R:List Row} (h:W P n B w0 c {Q with ext:=λi L R=>bif Nat.beq i id then Q.nrm L R else Q.ext i L R} L R):W P n B w0 (.block id c) Q L R:=by
 intro a w hs hp;refine wpIn_block (Bf (h a w hs hp) ?_);intro e a' w' hq;cases e with
 |normal=>exact hq
 | exit i=>
  obtain⟨L',R',ee,cm,hw⟩:=hq;simp only[Exit.inBlock];by_cases hi:i=id
  ·subst hi;rw[df rfl];exact⟨L',R',ee,cm,by simpa using hw⟩
  ·rw [bz hi]
   have hb:Nat.beq i id=false:=by
    cases hb:Nat.beq i id with
    |true=>exact absurd (yh hb) hi
    |false=>rfl
   dsimp only at hw;rw[hb] at hw;exact⟨L',R',ee,cm,hw⟩
 |goto l=>exact hq
 |ret=>exact hq
 |panic ch=>exact hq
 |outgrown=>exact hq
theorem aU {id:Nat} {Q:fC} {L:Env} {R:List Row} (h:Q.ext id L R):W P n B w0 (.exit id) Q L R:=
 λ_ _ hs hp=>wpIn_exit ⟨L,R,hs,hp,h⟩
theorem bS {Q:fC} {L:Env} {R:List Row} (h:Q.ret L R):W P n B w0 .ret Q L R:=λ_ _ hs hp=>wpIn_ret ⟨L,R,hs,hp,h⟩
theorem aI {Q:fC} {L:Env} {R:List Row} (h:Q.nrm L R):W P n B w0 .skip Q L R:=λ_ _ hs hp=>wpIn_skip ⟨L,R,hs,hp,h⟩
theorem KN {c:Operand} {x y:Code} {Q:fC} {L:Env} {R:List Row} {b:Bool} (hc:ev L c=some (.bool b)) (hx:b=true->W P n B w0 x Q L R) (hy:b=false->W P n B w0 y Q L R):W P n B w0 (.cond c x y) Q L R:=
 λa w hs hp=>wpIn_cond_split (hs.ev hc) (λhb=>hx hb a w hs hp) (λhb=>hy hb a w hs hp)
theorem bA {c:Operand} {x y:Code} {Q:fC} {L:Env} {R:List Row} {p:Prop} [Decidable p] (hc:ev L c=some (.bool (decide p))) (hx:p->W P n B w0 x Q L R) (hy: ¬p->W P n B w0 y Q L R):W P n B w0 (.cond c x y) Q L R:=
 KN hc (λh=>hx (Bj h)) (λh=>hy (of_decide_eq_false h))
theorem bE {c:Operand} {x y:Code} {Q:fC} {L:Env} {R:List Row} (hc:ev L c=some (.bool true)) (hx:W P n B w0 x Q L R):W P n B w0 (.cond c x y) Q L R:=KN hc (λ_=>hx) (λh=>by cases h)
theorem aJ {c:Operand} {x y:Code} {Q:fC} {L:Env} {R:List Row} (hc:ev L c=some (.bool false)) (hy:W P n B w0 y Q L R):W P n B w0 (.cond c x y) Q L R:=KN hc (λh=>by cases h) (λ_=>hy)
theorem aIx {c:Code} {Q:fC} {L L1:Env} {R R1:List Row} (hL:Sub L1 L) (hR: ∀w,Hp B w0 w R->Hp B w0 w R1) (h:W P n B w0 c Q L1 R1):W P n B w0 c Q L R:=
 λa w hs hp=>h a w (hs.sub hL) (hR w hp)
theorem iG {c:Code} {Q Q':fC} {L:Env} {R:List Row} (h:W P n B w0 c Q L R) (h1: ∀L R,Q.nrm L R->Q'.nrm L R) (h2: ∀L R,Q.ret L R->Q'.ret L R) (h3: ∀i L R,Q.ext i L R->Q'.ext i L R):W P n B w0 c Q' L R:=by
 intro a w hs hp;refine Bf (h a w hs hp) ?_;intro e a' w' hq;cases e with
 |normal=>obtain⟨L',R',ee,cm,hw⟩:=hq;exact⟨L',R',ee,cm,h1 _ _ hw⟩
 |exit id=>obtain⟨L',R',ee,cm,hw⟩:=hq;exact⟨L',R',ee,cm,h3 _ _ _ hw⟩
 |goto l=>exact hq
 |ret=>obtain⟨L',R',ee,cm,hw⟩:=hq;exact⟨L',R',ee,cm,h2 _ _ hw⟩
 |panic ch=>exact hq
 |outgrown=>exact hq
def Fam {σ:Type} (B:Nat) (w0:World) (Lx:σ->Env) (Rx:σ->List Row) (J:σ->Prop) (L:Env) (R:List Row):Prop:=
 ∃x,J x/\Sub (Lx x) L/\ ∀w,Hp B w0 w R->Hp B w0 w (Rx x)
theorem pM {σ:Type} {c:Code} {Q:fC} {L:Env} {R:List Row} (Lx:σ->Env) (Rx:σ->List Row) (J:σ->Prop) (μ:σ->Nat)
  (h0:Fam B w0 Lx Rx J L R)
  (round: ∀x,J x->W P n B w0 c {Q with nrm:=Fam B w0 Lx Rx (λy=>J y/\μ y<μ x)} (Lx x) (Rx x)):W P n B w0 (.loop c) Q L R:=by
 intro a w hs hp;obtain⟨x0,Bm,hL0,Oh⟩:=h0;refine wpIn_loop_ghost (λk a w=> ∃x,μ x=k/\J x/\Sat n (Lx x) a/\Hp B w0 w (Rx x)) (μ x0) ⟨x0,rfl,Bm,hs.sub hL0,Oh w hp⟩ ?_;rintro k a w ⟨x,rfl,hJ,hs,hp⟩;refine Bf (round x hJ a w hs hp) ?_;intro e a' w' hq;cases e with
 |normal=>
  obtain⟨L',R',ee,cm,y,⟨hJy,bc⟩,hLy,hRy⟩:=hq;exact⟨μ y,bc,y,rfl,hJy,ee.sub hLy,hRy _ cm⟩
 |exit id=>exact hq
 |goto l=>exact hq
 |ret=>exact hq
 |panic ch=>exact hq
 |outgrown=>exact hq
def Ct (P:Program) (f:FuncId) (args:Array Value) (B:Nat) (w0:World) (R:List Row) (Post:Value->List Row->Prop):Prop:=
 ∀w,Hp B w0 w R->Calls P f args w λe w'=> ∃v R',e= .returned v/\Hp B w0 w' R'/\Post v R'
theorem Ct.mono {f:FuncId} {args:Array Value} {R:List Row} {Post b9:Value->List Row->Prop} (h:Ct P f args B w0 R Post) (hp: ∀v R',Post v R'->b9 v R'):Ct P f args B w0 R b9:=
 λw hw=>(h w hw).mono λ_ _ ⟨v,R',he,hh,hv⟩=>⟨v,R',he,hh,hp _ _ hv⟩
theorem Ct.fresh {f:FuncId} {args:Array Value} {R:List Row} {Post:Value->List Row->Prop} (h: ∀w,Hp B w0 w R->Ct P f args w.heap.size w [] Post):
  Ct P f args B w0 R (λv R'=> ∃Rn,R'=Rn++R/\Post v Rn):=
 λw hw=>(h w hw w (Hp.refl w)).mono λ_ _ ⟨v,Rn,he,hh,hv⟩=>⟨v,Rn++R,he,hw.join hh,Rn,rfl,hv⟩
theorem Ct.sub {f:FuncId} {args:Array Value} {R R1:List Row} {Post:Value->List Row->Prop} (hR: ∀w,Hp B w0 w R->Hp B w0 w R1) (h:Ct P f args B w0 R1 Post):Ct P f args B w0 R Post:=
 λw hw=>h w (hR w hw)
def ini:Nat->AG->Env
 |_,[]=>[]
 |k,v::vs=>(k,v)::ini (k+1) vs
theorem WA: ∀(vs:AG) (k t:Nat) (v:Value),lk (ini k vs) t=some v->k<=t/\vs[t-k]? =some v:=by
 intro vs
 induction vs with
 |nil=>intro k t v h;simp[ini,lk] at h
 | cons u us ih=>
  intro k t v h;rcases yB h with⟨rfl,rfl⟩|⟨_,hl⟩
  ·simp
  ·obtain ⟨h1,h2⟩:=ih (k+1) t v hl;refine⟨G,?_⟩;have:t-k=(t-(k+1))+1:=G
   rw[this];simpa using h2
theorem aKs {f:FuncId} {fn:Func} {c:Code} {args:AG} {R:List Row} {Post:Value->List Row->Prop} (hf:P.funcs[f]? =some fn) (hb:fn.body=some c) (hl:Nat.ble args.length fn.ntmps=true)
  {Rt:Env->Option Value} (Ml: ∀L a w v,Sat fn.ntmps L a->Rt L=some v->(results fn a.tmps).run P w= .ok v w)
  (h:W P fn.ntmps B w0 c ⟨λL R'=> ∃v,Rt L=some v/\Post v R',λL R'=> ∃v,Rt L=some v/\Post v R',λ_ _ _=>False⟩ (ini 0 args) R):Ct P f args.toArray B w0 R Post:=by
 intro w hw;have wj:args.length<=fn.ntmps:=au hl;refine calls_of_wp hf hb (wp_mono (wpIn_wide.1 (h _ w ⟨cH,rfl,λt v ht=> ?_⟩ hw)) ?_)
 ·obtain ⟨_,h2⟩:=WA args 0 t v ht;simp only[yo] at h2;have bc:=(dw.1 h2).1;rw[<-h2];simp[zo,bc]
 ·intro e a' w' hq;cases e with
  |normal=>obtain⟨L',R',ee,cm,v,hv,nh⟩:=hq;exact⟨ee.defers,v,Ml _ _ _ _ ee hv,v,R',rfl,cm,nh⟩
  |ret=>obtain⟨L',R',ee,cm,v,hv,nh⟩:=hq;exact⟨ee.defers,v,Ml _ _ _ _ ee hv,v,R',rfl,cm,nh⟩
  |exit id=>obtain⟨_,_,_,_,h⟩:=hq;exact h.elim
  |goto l=>exact hq
  |panic ch=>exact hq.elim
  |outgrown=>exact hq.elim
theorem fn0 {f:FuncId} {fn:Func} {c:Code} {args:AG} {R:List Row} {Post:Value->List Row->Prop} (hf:P.funcs[f]? =some fn) (hb:fn.body=some c) (hr:fn.results= #[]) (hl:Nat.ble args.length fn.ntmps=true)
  (h:W P fn.ntmps B w0 c ⟨λ_ R'=>Post (.tuple #[]) R',λ_ R'=>Post (.tuple #[]) R',λ_ _ _=>False⟩ (ini 0 args) R):Ct P f args.toArray B w0 R Post:=
 aKs hf hb hl (Rt:=λ_=>some (.tuple #[])) (λ_ _ _ v _ hv=>by obtain rfl:=jc hv;exact results_none hr _ _ _) (by simpa using h)
theorem fn1 {f:FuncId} {fn:Func} {c:Code} {args:AG} {R:List Row} {Post:Value->List Row->Prop} {r:Nat} (hf:P.funcs[f]? =some fn) (hb:fn.body=some c) (hr:fn.results= #[.tmp r]) (hl:Nat.ble args.length fn.ntmps=true)
  (h:W P fn.ntmps B w0 c ⟨λL R'=> ∃v,lk L r=some v/\Post v R',λL R'=> ∃v,lk L r=some v/\Post v R',λ_ _ _=>False⟩ (ini 0 args) R):Ct P f args.toArray B w0 R Post:=
 aKs hf hb hl (Rt:=λL=>lk L r) (λ_ _ _ v hs hv=>by rw[results_tmp hr,hs.getD hv]) h
theorem fn2 {f:FuncId} {fn:Func} {c:Code} {args:AG} {R:List Row} {Post:Value->List Row->Prop} {r s:Nat} (hf:P.funcs[f]? =some fn) (hb:fn.body=some c) (hr:fn.results= #[.tmp r, .tmp s]) (hl:Nat.ble args.length fn.ntmps=true)
  (h:W P fn.ntmps B w0 c ⟨λL R'=> ∃v u,lk L r=some v/\lk L s=some u/\Post (.tuple #[v,u]) R',λL R'=> ∃v u,lk L r=some v/\lk L s=some u/\Post (.tuple #[v,u]) R',λ_ _ _=>False⟩ (ini 0 args) R):Ct P f args.toArray B w0 R Post:=by
 refine aKs hf hb hl (Rt:=λL=>(lk L r).bind λv=>(lk L s).map λu=> .tuple #[v,u]) (λL a w v hs hv=> ?_) (iG h ?_ ?_ (λ_ _ _ h=>h))
 ·obtain ⟨x,hx,hv⟩:=Cz.1 hv;obtain⟨u,hu,rfl⟩:=il.1 hv;rw[results_tmp2 hr,hs.getD hx,hs.getD hu]
 ·rintro L R' ⟨v,u,hv,hu,hp⟩;exact⟨_,by simp[hv,hu],hp⟩
 ·rintro L R' ⟨v,u,hv,hu,hp⟩;exact⟨_,by simp[hv,hu],hp⟩
theorem fn3 {f:FuncId} {fn:Func} {c:Code} {args:AG} {R:List Row} {Post:Value->List Row->Prop} {r s t:Nat} (hf:P.funcs[f]? =some fn) (hb:fn.body=some c) (hr:fn.results= #[.tmp r, .tmp s, .tmp t]) (hl:Nat.ble args.length fn.ntmps=true)
  (h:W P fn.ntmps B w0 c ⟨λL R'=> ∃v u x,lk L r=some v/\lk L s=some u/\lk L t=some x/\Post (.tuple #[v,u,x]) R',λL R'=> ∃v u x,lk L r=some v/\lk L s=some u/\lk L t=some x/\Post (.tuple #[v,u,x]) R',λ_ _ _=>False⟩ (ini 0 args) R):Ct P f args.toArray B w0 R Post:=by
 refine aKs hf hb hl (Rt:=λL=>(lk L r).bind λv=>(lk L s).bind λu=>(lk L t).map λx=> .tuple #[v,u,x]) (λL a w v hs hv=> ?_) (iG h ?_ ?_ (λ_ _ _ h=>h))
 ·obtain ⟨x,hx,hv⟩:=Cz.1 hv;obtain⟨u,hu,hv⟩:=Cz.1 hv;obtain⟨y,hy,rfl⟩:=il.1 hv;simp[results,hr,hs.val r x hx,hs.val s u hu,hs.val t y hy]
 ·rintro L R' ⟨v,u,x,hv,hu,hx,hp⟩;exact⟨_,by simp[hv,hu,hx],hp⟩
 ·rintro L R' ⟨v,u,x,hv,hu,hx,hp⟩;exact⟨_,by simp[hv,hu,hx],hp⟩
def WR (P:Program) (n:Nd) (B:Nat) (w0:World) (ops:Array Oper) (l:List Oper) (K:Env->List Row->Prop) (L:Env) (R:List Row):Prop:=
 ∀a w (Q:Exit->Act->World->Prop),Sat n L a->Hp B w0 w R->(∀a' w' L' R',Sat n L' a'->Hp B w0 w' R'->K L' R'->Q .normal a' w')->wpList P ops Q l a w
theorem XK {Q:fC}: ¬LetsOut (PQ n B w0 Q):=λ⟨_,_,h⟩=>h
theorem aL {id:Nat} {l:List Oper} {Q:fC} {L:Env} {R:List Row} (h:WR P n B w0 l.toArray l Q.nrm L R) (hd:yT n.rd l=true:=by exact rfl):W P n B w0 (.region id l.toArray false) Q L R:=
 λa w hs hp=>wpIn_region_lit (aGd XK l a w hd (h a w _ hs hp λ_ _ L' R' ee cm hk=>⟨L',R',ee,cm,hk⟩))
variable {ops:Array Oper} {l:List Oper} {K:Env->List Row->Prop} {L:Env} {R:List Row} {op:Op} {ty:TypeId} {pos:String} {nc:Array Edge}
theorem aA (h:K L R):WR P n B w0 ops [] K L R:=λ_ _ _ hs hp hq=>wpList_nil (hq _ _ L R hs hp h)
def Yl (P:Program) (n:Nd) (B:Nat) (w0:World) (op:Op) (ty:TypeId) (L:Env) (R:List Row) (v:Value):Prop:=
 ∀(a:Act) (w:World) (o:Oper),o.op=op->o.type=ty->Sat n L a->Hp B w0 w R->(execOp a.eval o).run P w= .ok (.value v) w
def Ac (P:Program) (n:Nd) (B:Nat) (w0:World) (op:Op) (ty:TypeId) (L:Env) (R:List Row) (Post:Value->List Row->Prop):Prop:=
 ∀(a:Act) (w:World) (o:Oper) (K:Act->World->Prop) (Q:Exit->Act->World->Prop),o.op=op->o.type=ty->Sat n L a->Hp B w0 w R->(∀v w' R',Hp B w0 w' R'->Post v R'->K (a.put o.dst v) w')->o.wp P a w K Q
theorem UI {d:Nat} {v:Value} (hn:Nat.blt d n=true) (hy:Yl P n B w0 op ty L R v) (h:WR P n B w0 ops l K ((d,v)::L) R):WR P n B w0 ops ({dst:=some d,op:=op,type:=ty,pos:=pos,after:=nc,guard:=none}::l) K L R:=by
 intro a w Q hs hp hq;refine wpList_plain rfl λK' Rz=> ?_;unfold Oper.wp;rw[hy a w _ rfl rfl hs hp];exact Rz _ _ (h _ _ Q (hs.put hn v) hp hq)
theorem bPz {d:Nat} {Post:Value->List Row->Prop} (hn:Nat.blt d n=true) (ha:Ac P n B w0 op ty L R Post) (h: ∀v R',Post v R'->WR P n B w0 ops l K ((d,v)::L) R'):WR P n B w0 ops ({dst:=some d,op:=op,type:=ty,pos:=pos,after:=nc,guard:=none}::l) K L R:=by
 intro a w Q hs hp hq;refine wpList_plain rfl λK' Rz=> ?_;exact ha a w _ K' Q rfl rfl hs hp λv w' R' cm hv=>Rz _ _ (h v R' hv _ _ Q (hs.put hn v) cm hq)
theorem bV {Post:Value->List Row->Prop} (ha:Ac P n B w0 op ty L R Post) (h: ∀v R',Post v R'->WR P n B w0 ops l K L R'):WR P n B w0 ops ({dst:=none,op:=op,type:=ty,pos:=pos,after:=nc,guard:=none}::l) K L R:=by
 intro a w Q hs hp hq;refine wpList_plain rfl λK' Rz=> ?_;exact ha a w _ K' Q rfl rfl hs hp λv w' R' cm hv=>Rz _ _ (h v R' hv _ _ Q hs cm hq)
theorem lT {j d:Nat} {b:Bool} {a:Act} (hs:Sat n L a) (hj:(ops[j]?).bind (·.dst)=some d) (hb:lk L d=some (.bool b)):yielded ops a.tmps j=some b:=by
 unfold yielded;rw[hj];simp only[Option.bind_some];rw[hs.val d _ hb]
theorem aB {j d:Nat} {want:Bool} {dst:Option Nat} (hj:(ops[j]?).bind (·.dst)=some d) (hb:lk L d=some (.bool want)) (h:WR P n B w0 ops ({dst:=dst,op:=op,type:=ty,pos:=pos,after:=nc,guard:=none}::l) K L R):
  WR P n B w0 ops ({dst:=dst,op:=op,type:=ty,pos:=pos,after:=nc,guard:=some (j,want)}::l) K L R:=by
 intro a w Q hs hp hq;have h1:=h a w Q hs hp hq;have hy:=lT hs hj hb;unfold wpList at h1 ⊢;rw[df (by simp[Region.wanted])] at h1;rw[df (by simp[Region.wanted,hy])];exact h1
theorem aM {j d e:Nat} {want b:Bool} (hj:(ops[j]?).bind (·.dst)=some d) (hb:lk L d=some (.bool b)) (fd:(b==want)=false) (hn:Nat.blt e n=true) (h:WR P n B w0 ops l K ((e,undef)::L) R):
  WR P n B w0 ops ({dst:=some e,op:=op,type:=ty,pos:=pos,after:=nc,guard:=some (j,want)}::l) K L R:=by
 intro a w Q hs hp hq;have hy:=lT hs hj hb;unfold wpList
 have:Region.wanted {dst:=some e,op:=op,type:=ty,pos:=pos,after:=nc,guard:=some (j,want)} (yielded ops a.tmps)=false:=by
  simp only[Region.wanted,hy];cases b<;>cases want<;>simp_all
 rw[this];simp only[ww,xk];exact h _ _ Q (hs.put hn undef) hp hq
theorem yM {j d:Nat} {a:Act} (hs:Sat n L a) (hj:(ops[j]?).bind (·.dst)=some d) (hb:lk L d=some undef):yielded ops a.tmps j=none:=by
 unfold yielded;rw[hj];simp only[Option.bind_some];rw[hs.val d _ hb];rfl
theorem dX {j d e:Nat} {want:Bool} (hj:(ops[j]?).bind (·.dst)=some d) (hb:lk L d=some undef) (hn:Nat.blt e n=true) (h:WR P n B w0 ops l K ((e,undef)::L) R):
  WR P n B w0 ops ({dst:=some e,op:=op,type:=ty,pos:=pos,after:=nc,guard:=some (j,want)}::l) K L R:=by
 intro a w Q hs hp hq;have hy:=yM hs hj hb;unfold wpList
 have:Region.wanted {dst:=some e,op:=op,type:=ty,pos:=pos,after:=nc,guard:=some (j,want)} (yielded ops a.tmps)=false:=by
  simp[Region.wanted,hy]
 rw[this];simp only[ww,xk];exact h _ _ Q (hs.put hn undef) hp hq
theorem qD {d:Nat} {v:Value} (h:lk L d=some v):Sub ((d,v)::L) L:=by
 intro t u hu;rcases yB hu with⟨rfl,rfl⟩|⟨_,hl⟩
 ·exact h
 ·exact hl
theorem bR (d:Nat) {p:Prop} [Decidable p] (hb:lk L d=some (.bool (decide p))) (ht:p->WR P n B w0 ops l K ((d, .bool true)::L) R) (hf: ¬p->WR P n B w0 ops l K ((d, .bool false)::L) R):WR P n B w0 ops l K L R:=by
 intro a w Q hs hp hq;by_cases h:p
 ·exact ht h a w Q (hs.sub (qD (by rw[hb,mh h]))) hp hq
 ·exact hf h a w Q (hs.sub (qD (by rw[hb,mr h]))) hp hq
theorem dB {L1:Env} {R1:List Row} (hL:Sub L1 L) (hR: ∀w,Hp B w0 w R->Hp B w0 w R1) (h:WR P n B w0 ops l K L1 R1):WR P n B w0 ops l K L R:=
 λa w Q hs hp hq=>h a w Q (hs.sub hL) (hR w hp) hq
theorem bF {d:Nat} {u v:Value} (hu:u=v) (h:WR P n B w0 ops l K ((d,v)::L) R):WR P n B w0 ops l K ((d,u)::L) R:=by
 subst hu;exact h
theorem jG {R1:List Row} (hR:R=R1) (h:WR P n B w0 ops l K L R1):WR P n B w0 ops l K L R:=by
 subst hR;exact h
end
end Go.Eng
namespace Go.Eng
open Go Go.RowKit
section
variable {P:Program} {n:Nd} {B:Nat} {w0:World} {L:Env} {R:List Row} {ty:TypeId}
theorem aK {x:Operand} {v:Value} (h:ev L x=some v):Yl P n B w0 (.move x) ty L R v:=by
 intro a w o ho _ hs _;simp[execOp,ho,hs.ev h]
theorem bC {x:Operand} {v:Value} (h:ev L x=some v):Yl P n B w0 (.assign x) ty L R v:=by
 intro a w o ho _ hs _;simp[execOp,ho,hs.ev h]
theorem aRp {c x y:Operand} {b:Bool} {v u:Value} (hc:ev L c=some (.bool b)) (hx:b=true->ev L x=some v) (hy:b=false->ev L y=some u):Yl P n B w0 (.pick c x y) ty L R (bif b then v else u):=by
 intro a w o ho _ hs _;cases b with
 |true=>simp[execOp,ho,hs.ev hc,hs.ev (hx rfl),asBool]
 |false=>simp[execOp,ho,hs.ev hc,hs.ev (hy rfl),asBool]
theorem aT {c x y:Operand} {v:Value} (hc:ev L c=some (.bool true)) (hx:ev L x=some v):Yl P n B w0 (.pick c x y) ty L R v:=
 aRp (b:=true) (u:=undef) hc (λ_=>hx) (λh=>by cases h)
theorem aO {c x y:Operand} {v:Value} (hc:ev L c=some (.bool false)) (hy:ev L y=some v):Yl P n B w0 (.pick c x y) ty L R v:=
 aRp (b:=false) (v:=undef) hc (λh=>by cases h) (λ_=>hy)
theorem aN {x:Operand} {t e:TypeId} {A:AF} {m c:Nat} (ht:P.underlying t=some (.slice e)) (hx:ev L x=some (.slice A m c)):Yl P n B w0 (.call {callee:= .builtin .len,args:= #[x],argTypes:= #[t]}) ty L R (.int .i64 (m:Int)):=by
 intro a w o ho _ hs _;simp[execOp,ho,resolve,invoke,builtin,Builtin.len_,ni ht,hs.ev hx,goInt]
theorem sJ {x y:Operand} {ts:Array TypeId} {k:IntKind} {p q:Int} (hx:ev L x=some (.int k p)) (hy:ev L y=some (.int k q)):Yl P n B w0 (.call {callee:= .builtin .min,args:= #[x,y],argTypes:=ts}) ty L R (.int k (min p q)):=by
 intro a w o ho _ hs _;have:(if q<p then q else p)=min p q:=G
 simp[execOp,ho,resolve,invoke,builtin,Builtin.min_,Builtin.min2,hs.ev hx,hs.ev hy,this]
theorem KE {x y:Operand} {ts:Array TypeId} {k:IntKind} {p q:Int} (hx:ev L x=some (.int k p)) (hy:ev L y=some (.int k q)):Yl P n B w0 (.call {callee:= .builtin .max,args:= #[x,y],argTypes:=ts}) ty L R (.int k (max p q)):=by
 intro a w o ho _ hs _;have:(if p<q then q else p)=max p q:=G
 simp[execOp,ho,resolve,invoke,builtin,Builtin.max_,Builtin.max2,hs.ev hx,hs.ev hy,this]
theorem dR {x y:Operand} {t u:TypeId} {k:IntKind} {p q:Int} (hx:ev L x=some (.int k p)) (hy:ev L y=some (.int k q)):Yl P n B w0 (.binOp .eql t x y u) ty L R (.bool (decide (p=q))):=by
 intro a w o ho _ hs _;have:(p==q)=decide (p=q):=by by_cases h:p=q<;>simp[h]
 simp[execOp,ho,binOp,eqGuard,hs.ev hx,hs.ev hy,Op.intCmp,this]
theorem fE {x y:Operand} {t u:TypeId} {k:IntKind} {p q:Int} (hx:ev L x=some (.int k p)) (hy:ev L y=some (.int k q)):Yl P n B w0 (.binOp .neq t x y u) ty L R (.bool (decide (p≠q))):=by
 intro a w o ho _ hs _;have:(p !=q)=decide (p≠q):=by by_cases h:p=q<;>simp[h]
 simp[execOp,ho,binOp,eqGuard,hs.ev hx,hs.ev hy,Op.intCmp,this]
theorem eD {x y:Operand} {t u:TypeId} {k:IntKind} {p q:Int} (hx:ev L x=some (.int k p)) (hy:ev L y=some (.int k q)):Yl P n B w0 (.binOp .lss t x y u) ty L R (.bool (decide (p<q))):=by
 intro a w o ho _ hs _;simp[execOp,ho,binOp,eqGuard,hs.ev hx,hs.ev hy,Op.intCmp]
theorem qK {x y:Operand} {t u:TypeId} {k:IntKind} {p q:Int} (hx:ev L x=some (.int k p)) (hy:ev L y=some (.int k q)):Yl P n B w0 (.binOp .leq t x y u) ty L R (.bool (decide (p<=q))):=by
 intro a w o ho _ hs _;simp[execOp,ho,binOp,eqGuard,hs.ev hx,hs.ev hy,Op.intCmp]
theorem dE {x y:Operand} {t u:TypeId} {k:IntKind} {p q:Int} (hx:ev L x=some (.int k p)) (hy:ev L y=some (.int k q)):Yl P n B w0 (.binOp .gtr t x y u) ty L R (.bool (decide (q<p))):=by
 intro a w o ho _ hs _;simp[execOp,ho,binOp,eqGuard,hs.ev hx,hs.ev hy,Op.intCmp]
theorem iA {x y:Operand} {t u:TypeId} {k:IntKind} {p q:Int} (hx:ev L x=some (.int k p)) (hy:ev L y=some (.int k q)):Yl P n B w0 (.binOp .geq t x y u) ty L R (.bool (decide (q<=p))):=by
 intro a w o ho _ hs _;simp[execOp,ho,binOp,eqGuard,hs.ev hx,hs.ev hy,Op.intCmp]
theorem aRv {x y:Operand} {t u:TypeId} {k:IntKind} {p q:Int} (hx:ev L x=some (.int k p)) (hy:ev L y=some (.int k q)):Yl P n B w0 (.binOp .add t x y u) ty L R (.int k (k.wrap (p+q))):=by
 intro a w o ho _ hs _;simp[execOp,ho,binOp,eqGuard,hs.ev hx,hs.ev hy,Op.intArith]
theorem bFd {x y:Operand} {t u:TypeId} {k:IntKind} {p q:Int} (hx:ev L x=some (.int k p)) (hy:ev L y=some (.int k q)):Yl P n B w0 (.binOp .sub t x y u) ty L R (.int k (k.wrap (p-q))):=by
 intro a w o ho _ hs _;simp[execOp,ho,binOp,eqGuard,hs.ev hx,hs.ev hy,Op.intArith]
theorem bFf {x y:Operand} {t u:TypeId} {k:IntKind} {p q:Int} (hx:ev L x=some (.int k p)) (hy:ev L y=some (.int k q)):Yl P n B w0 (.binOp .mul t x y u) ty L R (.int k (k.wrap (p*q))):=by
 intro a w o ho _ hs _;simp[execOp,ho,binOp,eqGuard,hs.ev hx,hs.ev hy,Op.intArith]
theorem AY {p:Int} (h: -9223372036854775808<=p/\p<=9223372036854775807):IntKind.i64.wrap p=p:=by rw[Bq];omega
theorem bX {x y:Operand} {t u:TypeId} {p q:Int} (hx:ev L x=some (.int .i64 p)) (hy:ev L y=some (.int .i64 q)) (h: -9223372036854775808<=p+q/\p+q<=9223372036854775807:=by omega):Yl P n B w0 (.binOp .add t x y u) ty L R (.int .i64 (p+q)):=by
 have:=aRv (P:=P) (n:=n) (B:=B) (w0:=w0) (R:=R) (ty:=ty) (t:=t) (u:=u) hx hy;rwa[AY h] at this
theorem gZ {x y:Operand} {t u:TypeId} {p q:Int} (hx:ev L x=some (.int .i64 p)) (hy:ev L y=some (.int .i64 q)) (h: -9223372036854775808<=p-q/\p-q<=9223372036854775807:=by omega):Yl P n B w0 (.binOp .sub t x y u) ty L R (.int .i64 (p-q)):=by
 have:=bFd (P:=P) (n:=n) (B:=B) (w0:=w0) (R:=R) (ty:=ty) (t:=t) (u:=u) hx hy;rwa[AY h] at this
theorem iZ {x y:Operand} {t u:TypeId} {p q:Int} (hx:ev L x=some (.int .i64 p)) (hy:ev L y=some (.int .i64 q)) (h: -9223372036854775808<=p*q/\p*q<=9223372036854775807:=by omega):Yl P n B w0 (.binOp .mul t x y u) ty L R (.int .i64 (p*q)):=by
 have:=bFf (P:=P) (n:=n) (B:=B) (w0:=w0) (R:=R) (ty:=ty) (t:=t) (u:=u) hx hy;rwa[AY h] at this
theorem uV {x y:Operand} {t u:TypeId} {k:IntKind} {p q:Int} (hx:ev L x=some (.int k p)) (hy:ev L y=some (.int k q)) (h0:0<=p:=by omega) (h:0<q:=by omega):Yl P n B w0 (.binOp .rem t x y u) ty L R (.int k (p%q)):=by
 intro a w o ho _ hs _;have h1: ¬q=0:=G
 simp[execOp,ho,binOp,eqGuard,hs.ev hx,hs.ev hy,Op.intDiv,h1,Int.tmod_eq_emod_of_nonneg h0]
theorem bFe {x y:Operand} {t u:TypeId} {k:IntKind} {p q:Int} (hx:ev L x=some (.int k p)) (hy:ev L y=some (.int k q)) (h0:0<=p) (h:0<q):Yl P n B w0 (.binOp .quo t x y u) ty L R (.int k (k.wrap (p/q))):=by
 intro a w o ho _ hs _;have h1: ¬q=0:=G
 simp[execOp,ho,binOp,eqGuard,hs.ev hx,hs.ev hy,Op.intDiv,h1,Int.tdiv_eq_ediv_of_nonneg h0]
theorem EP {x y:Operand} {t u:TypeId} {p q:Int} (hx:ev L x=some (.int .i64 p)) (hy:ev L y=some (.int .i64 q)) (h0:0<=p) (h:0<q) (hm:p<=9223372036854775807):Yl P n B w0 (.binOp .quo t x y u) ty L R (.int .i64 (p/q)):=by
 have:=bFe (P:=P) (n:=n) (B:=B) (w0:=w0) (R:=R) (ty:=ty) (t:=t) (u:=u) hx hy h0 h;have h1:p/q<=p:=Ie q h0;have h2:0<=p/q:=Ew h0 G;rwa[AY G] at this
theorem dI {x:Operand} {t:TypeId} {b:Bool} (hx:ev L x=some (.bool b)):Yl P n B w0 (.unOp .not t x) ty L R (.bool !b):=by
 intro a w o ho _ hs _;simp[execOp,ho,hs.ev hx,Op.unary]
theorem EQ {x:Operand} {t:TypeId} {p:Prop} [Decidable p] (hx:ev L x=some (.bool (decide p))):Yl P n B w0 (.unOp .not t x) ty L R (.bool (decide (¬p))):=by
 have:=dI (P:=P) (n:=n) (B:=B) (w0:=w0) (R:=R) (ty:=ty) (t:=t) hx;rwa[show(!decide p)=decide (¬p) by simp] at this
theorem mP {x:Operand} {s d:TypeId} {k j:IntKind} {p:Int} {td:TypeDesc} (ee:P.underlying s=some td) (hd:P.underlying d=some (.int k)) (hx:ev L x=some (.int j p)):Yl P n B w0 (.convert s d x) ty L R (.int k (k.wrap p)):=by
 intro a w o ho _ hs _;simp[execOp,ho,convert,ni ee,ni hd,hs.ev hx,Conv.intToInt]
theorem iK {x:Operand} {s d:TypeId} {j:IntKind} {p:Int} {td:TypeDesc} (ee:P.underlying s=some td) (hd:P.underlying d=some (.int .i64)) (hx:ev L x=some (.int j p)) (h: -9223372036854775808<=p/\p<=9223372036854775807:=by omega):Yl P n B w0 (.convert s d x) ty L R (.int .i64 p):=by
 have:=mP (P:=P) (n:=n) (B:=B) (w0:=w0) (R:=R) (ty:=ty) ee hd hx;rwa[AY h] at this
end
end Go.Eng
namespace Go.Eng
open Go Go.RowKit
def pat (A:AF) (j:Nat):AF:=A.map (·.add j)
theorem add_add (a:Addr) (i j:Nat):(a.add i).add j=a.add (i+j):=by
 unfold Addr.add;by_cases h1:i=0<;>by_cases h2:j=0<;>simp[h1,h2,nk]
theorem CJ (A:AF):pat A 0=A:=by cases A<;>simp[pat,Addr.add]
def rd (l:AH) (i:Int):Int:=l.getD i.toNat 0
def ints (k:IntKind) (l:AH):AG:=l.map (Value.int k)
theorem cZ (k:IntKind) (l:AH):(ints k l).length=l.length:=by simp[ints]
theorem ints_at {k:IntKind} {l:AH} {i:Int} (h0:0<=i) (h:i<l.length):(ints k l)[i.toNat]? =some (.int k (rd l i)):=by
 have hl:i.toNat<l.length:=G
 simp[ints,rd,ak,av hl]
def AA:TypeDesc->Bool
 | .struct _=>true
 | .array _ _=>true
 |_=>false
section
variable {P:Program} {n:Nd} {B:Nat} {w0:World} {L:Env} {R:List Row} {ty:TypeId}
theorem RP {t:TypeId} {d:TypeDesc} (hu:P.underlying t=some d) (w:World):(isAgg t).run P w= .ok (AA d) w:=by
 simp only[isAgg,kg,ni hu,jw];cases d<;>rfl
theorem Rd.cell {w:World} {A:AF} {m c sz:Nat} {xs:AG} (h:Rd w A m c sz xs) {j:Nat} {v:Value} (hv:xs[j]? =some v): ∃a,pat A j=some a/\w.cell? a=some v:=by
 obtain⟨a,rfl,hc⟩:=h.at_ j v hv;exact⟨_,rfl,hc⟩
theorem dU {x ix:Operand} {t e:TypeId} {k:IntKind} {A:AF} {m c sz:Nat} {i:Int} {xs:AG} (ht:P.underlying t=some (.slice e)) (hi:(P.info? e).map (·.size)=some sz) (hx:ev L x=some (.slice A m c)) (sq:ev L ix=some (.int k i))
  (hr:RdC B w0 R A m c sz xs) (hsz:Nat.blt 0 sz=true) (h0:0<=i:=by omega) (h1:i<m:=by omega):Yl P n B w0 (.indexAddr t x ix) ty L R (.pointer (pat A (i.toNat*sz))):=by
 intro a w o ho _ hs hp;have jj:=hr w hp;obtain⟨i0,aw,hsz0⟩:=il.1 hi
 have bc:i.toNat*sz<xs.length:=by
  rw[jj.len];exact Nat.mul_lt_mul_of_pos_right G (au hsz)
 obtain⟨ad,rfl,_⟩:=jj.at_ (i.toNat*sz) xs[i.toNat*sz] (by simp[bc]);simp[execOp,ho,Instr.indexAt,hs.ev hx,hs.ev sq,asIntOf,ni ht,h0,h1,sizeOf,typeInfo,aw,hsz0,pat]
theorem aG {x ix:Operand} {t e:TypeId} {k:IntKind} {A:AF} {m c:Nat} {i:Int} {xs:AG} (ht:P.underlying t=some (.slice e)) (hi:(P.info? e).map (·.size)=some 1) (hx:ev L x=some (.slice A m c)) (sq:ev L ix=some (.int k i))
  (hr:RdC B w0 R A m c 1 xs) (h0:0<=i:=by omega) (h1:i<m:=by omega):Yl P n B w0 (.indexAddr t x ix) ty L R (.pointer (pat A i.toNat)):=by
 have:=dU (n:=n) (ty:=ty) ht hi hx sq hr rfl h0 h1;rwa[qy] at this
theorem zB {x ix:Operand} {t e:TypeId} {k:IntKind} {p A:AF} {m c sz Wh N j0:Nat} {i:Int} {xs:AG} (ht:P.underlying t=some (.array N e)) (hi:(P.info? e).map (·.size)=some sz) (hx:ev L x=some (.pointer p)) (Mf:p=pat A j0) (sq:ev L ix=some (.int k i))
  (hr:RdC B w0 R A m c Wh xs) (bc:j0<xs.length) (h0:0<=i) (h1:i<N):Yl P n B w0 (.indexAddr t x ix) ty L R (.pointer (pat A (j0+i.toNat*sz))):=by
 intro a w o ho _ hs hp;have jj:=hr w hp;obtain⟨i0,aw,hsz0⟩:=il.1 hi;obtain⟨ad,rfl,_⟩:=jj.at_ j0 xs[j0] (by simp[bc]);subst Mf;simp[execOp,ho,Instr.indexAt,Instr.sureAddr,hs.ev hx,hs.ev sq,asIntOf,ni ht,h0,h1,sizeOf,typeInfo,aw,hsz0,pat,add_add]
theorem rF {x:Operand} {t:TypeId} {d:TypeDesc} {p A:AF} {j m c sz:Nat} {xs:AG} {v:Value} (hu:P.underlying t=some d) (hd:AA d=false) (hx:ev L x=some (.pointer p)) (hp:p=pat A j) (hr:RdC B w0 R A m c sz xs) (hv:xs[j]? =some v):
  Yl P n B w0 (.load t x) ty L R v:=by
 intro a w o ho _ hs hw;obtain⟨ad,h1,h2⟩:=(hr w hw).cell hv;subst hp;simp[execOp,ho,Instr.loadAt,Instr.sureAddr,hs.ev hx,h1,loadVar,RP hu,hd,h2]
theorem aR {x:Operand} {t:TypeId} {d:TypeDesc} {A:AF} {m c:Nat} {k:IntKind} {l:AH} {i:Int} (hu:P.underlying t=some d) (hd:AA d=false) (hx:ev L x=some (.pointer (pat A i.toNat))) (hr:RdC B w0 R A m c 1 (ints k l)) (h0:0<=i:=by omega) (h1:i<m:=by omega):
  Yl P n B w0 (.load t x) ty L R (.int k (rd l i)):=by
 intro a w o ho k9 hs hw;have hl:=(hr w hw).len;rw[cZ] at hl;exact rF hu hd hx rfl hr (ints_at h0 G) a w o ho k9 hs hw
theorem aIv {x:Operand} {t:TypeId} {d:TypeDesc} {p A:AF} {j m c sz st:Nat} {xs:AG} (hu:P.underlying t=some d) (hd:AA d=true) (gs:(P.info? t).map (·.size)=some st) (hx:ev L x=some (.pointer p)) (hp:p=pat A j) (hr:RdC B w0 R A m c sz xs) (hj:j+st<=xs.length) (w8:0<st):
  Yl P n B w0 (.load t x) ty L R (.agg ((xs.drop j).take st).toArray):=by
 intro a w o ho _ hs hw;have jj:=hr w hw;obtain⟨i0,aw,hsz0⟩:=il.1 gs;obtain⟨ad,rfl,_⟩:=jj.at_ j xs[j] cD;subst hp
 have hc:(loadCells (ad.add j) st).run P w= .ok ((xs.drop j).take st).toArray w:=by
  have:=run_loadCells_list (P:=P) w (ad.add j) ((xs.drop j).take st) (λq v hq=>by
   have Po:xs[j+q]? =some v:=by
    rw[og] at hq;split at hq
    ·simpa using hq
    ·cases hq
   obtain⟨a',oe,hc⟩:=jj.at_ _ _ Po;obtain rfl:=jc oe
   rw[add_add];exact hc)
  have hl:((xs.drop j).take st).length=st:=cH
  rwa[hl] at this
 simp[execOp,ho,Instr.loadAt,Instr.sureAddr,hs.ev hx,pat,loadVar,RP hu,hd,sizeOf,typeInfo,aw,hsz0,hc]
theorem vG {x:Operand} {t:TypeId} {fs:Array Field} {f:Field} {k st:Nat} {a0:Addr} (hu:P.underlying t=some (.struct fs)) (hf:fs[k]? =some f) (gs:(P.info? f.type).map (·.size)=some st) (w8:Nat.blt 0 st=true) (hx:ev L x=some (.pointer (some a0))):
  Yl P n B w0 (.fieldAddr t x k) ty L R (.pointer (some (a0.add f.offset))):=by
 intro a w o ho _ hs _;obtain⟨i0,aw,hsz0⟩:=il.1 gs;have: ¬st=0:=by have:=au w8;omega
 simp[execOp,ho,Instr.fieldAt,Instr.sureAddr,hs.ev hx,ni hu,hf,fieldPlace,sizeOf,typeInfo,aw,hsz0,this]
theorem aF {x:Operand} {a0:Addr} (hx:ev L x=some (.pointer (some a0))):Yl P n B w0 (.nilCheck x) ty L R (.pointer (some a0)):=by
 intro a w o ho _ hs _;simp[execOp,ho,hs.ev hx]
theorem iE {x:Operand} {i:Nat} {vs:Array Value} {v:Value} (hx:ev L x=some (.tuple vs)) (hv:vs[i]? =some v):Yl P n B w0 (.extract x i) ty L R v:=by
 intro a w o ho _ hs _;simp[execOp,ho,hs.ev hx,Instr.extract,hv]
def evs (L:Env):List Operand->Option (AG)
 |[]=>some []
 |x::r=>match ev L x,evs L r with
  |some v,some vs=>some (v::vs)
  |_,_=>none
theorem Sat.evs {a:Act} (hs:Sat n L a): ∀ {xs:List Operand} {vs:AG},evs L xs=some vs->xs.map a.eval=vs
 |[],vs,h=>by simpa [Eng.evs] using h
 | x::r,vs,h=>by
  unfold Eng.evs at h;split at h
  ·rename_i v us h1 h2;obtain rfl:=jc h;rw[lm,hs.ev h1,hs.evs h2]
  ·cases h
theorem lU {fn:Fn} {ps cs:List Operand} {vs us:AG} (h1:evs L ps=some vs) (h2:evs L cs=some us):Yl P n B w0 (.makeFunc fn ps.toArray cs.toArray) ty L R (.func fn vs.toArray us.toArray):=by
 intro a w o ho _ hs _;have e1:=hs.evs h1;have e2:=hs.evs h2;simp[execOp,ho,Instr.makeFunc,e1,e2]
def jE (A:AF) (l c sz:Nat):AF:=if c=l then A else A.map (·.add (l*sz))
theorem bHz {w:World} {A:AF} {m sz c l h:Nat} {xs:AG} (hr:Rd w A m c sz xs) (h1:l<=h) (h2:h<=m):Rd w (jE A l c sz) (h-l) (c-l) sz ((xs.drop (l*sz)).take ((h-l)*sz)):=by
 have hc:=hr.le;have e1:h*sz=l*sz+(h-l)*sz:=by rw[<-yf];congr 1;omega
 have e2:h*sz<=m*sz:=ut _ h2;refine⟨?_,by have:=hr.max;omega,G,λj v hv=> ?_⟩
 ·rw[ax,az,hr.len];omega
 ·rw [og] at hv;split at hv
  ·rename_i hj;have Qr:xs[l*sz+j]? =some v:=by simpa using hv
   obtain⟨a,rfl,rp⟩:=hr.at_ _ _ Qr;unfold jE;by_cases mj:c=l
   ·have:h=l:=G
    subst this;simp at hj
   ·rw [bz mj];exact⟨_,rfl,by rw[add_add];exact rp⟩
  ·cases hv
theorem RdC.cut {A:AF} {m sz c l h:Nat} {xs:AG} (hr:RdC B w0 R A m c sz xs) (h1:l<=h) (h2:h<=m):RdC B w0 R (jE A l c sz) (h-l) (c-l) sz ((xs.drop (l*sz)).take ((h-l)*sz)):=
 λw hw=>bHz (hr w hw) h1 h2
theorem RdC.cutI {A:AF} {m c l h:Nat} {k:IntKind} {xs:AH} (hr:RdC B w0 R A m c 1 (ints k xs)) (h1:l<=h) (h2:h<=m):RdC B w0 R (jE A l c 1) (h-l) (c-l) 1 (ints k ((xs.drop l).take (h-l))):=by
 have:=hr.cut h1 h2;simpa [ints,Ch,Hu] using this
theorem RdC.fromI {A:AF} {m c l:Nat} {k:IntKind} {xs:AH} (hr:RdC B w0 R A m c 1 (ints k xs)) (h1:l<=m):RdC B w0 R (jE A l c 1) (m-l) (c-l) 1 (ints k (xs.drop l)):=by
 intro w hw;have:=hr.cutI h1 (di m) w hw;have hl:=(hr w hw).len;rw[cZ] at hl;rwa[bg (by rw[az];omega)] at this
theorem RdC.to {A:AF} {m c h sz:Nat} {xs:AG} (hr:RdC B w0 R A m c sz xs) (h2:h<=m):RdC B w0 R A h c sz (xs.take (h*sz)):=by
 intro w hw;have jj:=hr w hw;have hl:=jj.len;have pv:h*sz<=m*sz:=ut _ h2;refine⟨by rw[ax];omega,by have:=jj.max;omega,by have:=jj.le;omega,λj v hv=> ?_⟩;refine jj.at_ j v ?_;rw[og] at hv;split at hv
 ·exact hv
 ·cases hv
theorem RdC.toI {A:AF} {m h c:Nat} {k:IntKind} {xs:AH} (hr:RdC B w0 R A m c 1 (ints k xs)) (h2:h<=m):RdC B w0 R A h c 1 (ints k (xs.take h)):=by
 have:=hr.to h2;simpa [ints,Ch] using this
theorem aIs {x y z:Operand} {t e:TypeId} {A:AF} {m c sz:Nat} {k1 k2:IntKind} {l h:Int} (ht:P.underlying t=some (.slice e)) (hi:(P.info? e).map (·.size)=some sz) (hx:ev L x=some (.slice A m c)) (hy:ev L y=some (.int k1 l)) (hz:ev L z=some (.int k2 h)) {xs:AG} (hr:RdC B w0 R A m c sz xs) (h0:0<=l) (h1:l<=h) (h2:h<=m):
  Yl P n B w0 (.slice t x (some y) (some z) none) ty L R (.slice (jE A l.toNat c sz) (h.toNat-l.toNat) (c-l.toNat)):=by
 intro a w o ho _ hs hp;have pv:=(hr w hp).le;obtain⟨i0,aw,hsz0⟩:=il.1 hi;have ud:P.elem t=e:=by simp[Program.elem,ht]
 have sk:P.underlying t=some (.slice (P.elem t)):=by rw[ud];exact ht
 simp only[execOp,ho,ky,Bb,hs.ev hx,hs.ev hy,hs.ev hz,kg,Af w t _ _ _ _ sk,run_slice_lh w t A m c sk k1 k2 l h h0 h1 G,ud];simp[sizeOf,typeInfo,aw,hsz0,sliced,jE]
theorem dK {x y:Operand} {t e:TypeId} {A:AF} {m c sz:Nat} {k1:IntKind} {l:Int} (ht:P.underlying t=some (.slice e)) (hi:(P.info? e).map (·.size)=some sz) (hx:ev L x=some (.slice A m c)) (hy:ev L y=some (.int k1 l)) (h0:0<=l:=by omega) (h1:l<=m:=by omega):
  Yl P n B w0 (.slice t x (some y) none none) ty L R (.slice (jE A l.toNat c sz) (m-l.toNat) (c-l.toNat)):=by
 intro a w o ho _ hs _;obtain⟨i0,aw,hsz0⟩:=il.1 hi;have ud:P.elem t=e:=by simp[Program.elem,ht]
 have sk:P.underlying t=some (.slice (P.elem t)):=by rw[ud];exact ht
 simp only[execOp,ho,ky,Bb,hs.ev hx,hs.ev hy,kg,Af w t _ _ _ _ sk,run_slice_l w t A m c sk k1 l h0 h1,ud];simp[sizeOf,typeInfo,aw,hsz0,sliced,jE]
theorem dQ {x z:Operand} {t e:TypeId} {A:AF} {m c sz:Nat} {k2:IntKind} {h:Int} (ht:P.underlying t=some (.slice e)) (hi:(P.info? e).map (·.size)=some sz) (hx:ev L x=some (.slice A m c)) (hz:ev L z=some (.int k2 h)) {xs:AG} (hr:RdC B w0 R A m c sz xs) (h0:0<=h:=by omega) (h2:h<=m:=by omega):
  Yl P n B w0 (.slice t x none (some z) none) ty L R (.slice A h.toNat c):=by
 intro a w o ho _ hs hp;have pv:=(hr w hp).le;obtain⟨i0,aw,hsz0⟩:=il.1 hi;have ud:P.elem t=e:=by simp[Program.elem,ht]
 have sk:P.underlying t=some (.slice (P.elem t)):=by rw[ud];exact ht
 simp only[execOp,ho,ky,Bb,hs.ev hx,hs.ev hz,kg,Af w t _ _ _ _ sk,run_slice_h w t A m c sk k2 h h0 G,ud]
 have:(if c=0 then A else Option.map (λx=>x.add 0) A)=A:=by
  split
  ·rfl
  ·exact CJ A
 simp[sizeOf,typeInfo,aw,hsz0,sliced,this]
def Enters (P:Program) (f:FuncId):Prop:= ∀args w,(callFunc f args).run P w= .ok (.enter f args) w
theorem enters {f:FuncId} {fn:Func} (hf:P.funcs[f]? =some fn) (h1:(fn.name== "runtime.NumGoroutine")=false) (h2:fn.body.isNone=false):Enters P f:=by
 intro args w;unfold callFunc;simp only[program,kg,Sem.run,jw,hf];simp[h1,h2]
theorem PI {cal:Operand} {z8:List Operand} {ts:Array TypeId} {f:FuncId} {ps cs:Array Value} {vs:AG} {Post:Value->List Row->Prop} (he:Enters P f) (hf:ev L cal=some (.func (.func f) ps cs)) (ha:evs L z8=some vs) (hc:Ct P f (ps++vs.toArray++cs) B w0 R Post):
  Ac P n B w0 (.call {callee:= .value cal,args:=z8.toArray,argTypes:=ts}) ty L R Post:=by
 intro a w o K Q ho _ hs hp hk;have e1:=hs.evs ha;unfold Oper.wp;simp only[execOp,ho,resolve,hs.ev hf,Deferred.ofValue,invoke,kg,ny,jw,uj,e1,he (ps++vs.toArray++cs) w,Oper.upon];refine(hc w hp).mono ?_;rintro e w' ⟨v,R',rfl,cm,hv⟩;exact hk v w' R' cm hv
theorem aD {f:FuncId} {z8:List Operand} {ts:Array TypeId} {vs:AG} {Post:Value->List Row->Prop} (he:Enters P f) (ha:evs L z8=some vs) (hc:Ct P f vs.toArray B w0 R Post):
  Ac P n B w0 (.call {callee:= .value (.func f),args:=z8.toArray,argTypes:=ts}) ty L R Post:=
 PI (ps:= #[]) (cs:= #[]) he rfl ha (by simpa using hc)
end
end Go.Eng
namespace Go.Eng
open Go Go.RowKit
section
variable {P:Program} {n:Nd} {B:Nat} {w0:World} {L:Env} {R:List Row} {ty:TypeId}
theorem Row.lies_nil (B:Nat) (w:World) (e sz:Nat):(Row.mk e sz none 0 0 [] false).lies B w:=World.ownsRow_nil w B e sz
theorem Hp.nil {w:World} (h:Hp B w0 w R) (e sz:Nat):Hp B w0 w (⟨e,sz,none,0,0,[],false⟩::R):=
 ⟨h.below,h.base,λr hr=>by
  rcases jm.1 hr with rfl|hr
  ·exact Row.lies_nil B w e sz
  ·exact h.own r hr,jb.2 ⟨λr _ a a' ha _=>(by cases ha),h.apart⟩,h.late⟩
theorem Hp.new {w:World} (h:Hp B w0 w R) (cs:Array Value) (e m sz:Nat) (hm:m<=maxLen) (hs:cs.size=m*sz):Hp B w0 (w.alloc (.cells cs e)) (⟨e,sz,some ⟨w.heap.size,0,none⟩,m,m,cs.toList,false⟩::R):=by
 refine h.join (Rn:=[_]) ⟨(Gc _ _).alloc (di _) _,cD,λr hr=> ?_,qb _ _,Late.alloc _ _⟩;obtain rfl:=ib.1 hr;exact World.ownsRow_lit w cs m (di _) hm hs
theorem Hp.upd {w w':World} (h:Hp B w0 w R) {i:Nat} {r r':Row} (hi:R[i]? =some r) {row:Option Nat} (hg:w.grownBy w' row) (hd:w.drawn<=w'.drawn) (ie: ∀k,row=some k-> ∃a,r.A=some a/\a.block=k) (hl:r'.lies B w')
  (hb: ∀a',r'.A=some a'->(∃a,r.A=some a/\a.block=a'.block)\/w.heap.size<=a'.block):Hp B w0 w' (R.set i r'):=by
 have hr:r∈R:=fw hi;have tx:i<R.length:=(dw.1 hi).1
 have keep: ∀(q:Row),q.lies B w->(∀a,q.A=some a-> ∀a',r.A=some a'->a.block≠a'.block)->q.lies B w':=by
  intro q hq fd;refine Row.lies_of_block hq λa ha=> ?_;refine hg.block a.block (Row.lies_lt hq a ha).2 λe=> ?_;obtain⟨a',oe,hk⟩:=ie _ e.symm;exact fd a ha a' oe hk.symm
 refine⟨h.below.grown hg h.base (λk hk=> ?_),qx h.base hg.size,λq hq=> ?_,?_,h.late.trans ⟨hd,λk o hk hc=> ?_⟩⟩
 ·obtain ⟨a,ha,rfl⟩:=ie k hk;exact(Row.lies_lt (h.own r hr) a ha).1
 ·obtain ⟨j,hj⟩:=List.mem_iff_getElem?.1 hq;rw[xx] at hj;by_cases oa:i=j
  ·rw [df oa] at hj;rw[df tx] at hj;obtain rfl:=jc hj;exact hl
  ·rw [bz oa] at hj;refine keep q (h.own q (fw hj)) ?_;intro a ha a' oe;have r9:=(dw.1 hj).1;have Tb:=(dw.1 hj).2;have i9:=(dw.1 hi).2;rcases Cs oa with bc|bc
   ·have:=dn.1 h.apart i j tx r9 bc;rw[Tb,i9] at this;exact Fx (this a' a oe ha)
   ·have:=dn.1 h.apart j i r9 tx bc;rw[Tb,i9] at this;exact this a a' ha oe
 ·have pt: ∀j (hj:j<R.length),i≠j->r'.apart R[j]:=by
   intro j hj oa a' aj oe Vj;have hlj:=Row.lies_lt (h.own R[j] (mf hj)) aj Vj;rcases hb a' oe with⟨a,ha,e⟩|Fl
   ·have i9:=(dw.1 hi).2;rw[<-e];rcases Cs oa with bc|bc
    ·have:=dn.1 h.apart i j tx hj bc;rw[i9] at this;exact this a aj ha Vj
    ·have:=dn.1 h.apart j i hj tx bc;rw[i9] at this;exact Fx (this aj a Vj ha)
   ·omega
  refine dn.2 λp q hp hq Zo=> ?_;simp only[Fa] at hp hq;by_cases h1:i=p
  ·subst h1;rw[List.getElem_set_self,Cc G];exact pt q hq G
  ·by_cases h2:i=q
   ·subst h2;rw[List.getElem_set_self,Cc h1];exact Row.apart_symm (pt p hp G)
   ·rw [Cc h1,Cc h2];exact dn.1 h.apart p q hp hq Zo
 ·rw [hg.block k (gm.1 hk).1 λe=> ?_]
  ·exact hk
  ·obtain ⟨a,ha,rfl⟩:=ie k e.symm;obtain⟨cs,e',fr,bp⟩:=Row.lies_cells (h.own r hr) ha;rw[bp] at hk;cases hk;cases hc
theorem World.grownBy_refl' (w:World) (row:Option Nat):w.grownBy w row:=⟨rfl,rfl,rfl,di _,λ_ _ _=>rfl⟩
theorem Row.lies_w {w:World} {r:Row} (h:r.lies B w) (pk:r.ro=false):w.ownsRow B r.e r.sz (.slice r.A r.n r.c) r.n r.xs:=by
 unfold Row.lies at h;simpa only[pk] using h
theorem bJz {x y:Operand} {t e:TypeId} {z:Value} {bytes m:Nat} (ht:P.underlying t=some (.slice e)) (dg:(P.info? e).map (λi=>(i.zero,i.size,i.bytes))=some (some z,1,bytes)) (hz:z.cells= #[z])
  (hx:ev L x=some (.int .i64 (m:Int))) (hy:ev L y=some (.int .i64 (m:Int))) (hm:m*bytes<=281474976710656) (Kt:m<=9223372036854775807):
  Ac P n B w0 (.makeSlice t x y) ty L R (λv R'=> ∃g,v= .slice (some ⟨g,0,none⟩) m m/\R'=⟨e,1,some ⟨g,0,none⟩,m,m,List.replicate m z,false⟩::R):=by
 intro a w o K Q ho _ hs hp hk;obtain⟨i0,hi,a8⟩:=il.1 dg;simp only[yt] at a8;obtain⟨wt,i5,Ix⟩:=a8
 have hb:(i0.bytes:Int)*(m:Int)<=281474976710656:=by
  have h:((m*bytes:Nat):Int)<=281474976710656:=G
  rw[Ix,Dg];rwa[Ba] at h
 have hr:=run_make (P:=P) w t e i0 z ht hi wt .i64 .i64 m m G (lq _) hb G;simp only[cz,i5,qy,hz] at hr;unfold Oper.wp;simp only[execOp,ho,hs.ev hx,hs.ev hy,kg,hr,jw,ny,Oper.upon];have hh:=hp.new (madeCells #[z] m) e m 1 (by unfold maxLen;omega) (by simp[size_madeCells]);rw[toList_madeCells_one] at hh;exact hk _ _ _ hh ⟨_,rfl,rfl⟩
theorem aLx {x y:Operand} {t e:TypeId} {z:Value} {bytes:Nat} {m:Int} (ht:P.underlying t=some (.slice e)) (dg:(P.info? e).map (λi=>(i.zero,i.size,i.bytes))=some (some z,1,bytes)) (hz:z.cells= #[z])
  (hx:ev L x=some (.int .i64 m)) (hy:ev L y=some (.int .i64 m)) (h0:0<=m) (hm:m*bytes<=281474976710656) (Kt:m<=9223372036854775807):
  Ac P n B w0 (.makeSlice t x y) ty L R (λv R'=> ∃g,v= .slice (some ⟨g,0,none⟩) m.toNat m.toNat/\R'=⟨e,1,some ⟨g,0,none⟩,m.toNat,m.toNat,List.replicate m.toNat z,false⟩::R):=by
 obtain⟨q,rfl⟩:=Int.eq_ofNat_of_zero_le h0;have h:((q*bytes:Nat):Int)<=281474976710656:=by rw[Ba];exact hm
 have:=bJz (P:=P) (n:=n) (B:=B) (w0:=w0) (L:=L) (R:=R) (ty:=ty) (m:=q) ht dg hz hx hy G G;simpa only[cz] using this
theorem iC {e:TypeId} {z:Value} {sz:Nat} (dg:(P.info? e).map (·.zero)=some (some z)) (hz:z.cells.size=sz):Ac P n B w0 (.alloc e) ty L R (λv R'=> ∃g,v= .pointer (some ⟨g,0,none⟩)/\R'=⟨e,sz,some ⟨g,0,none⟩,1,1,z.cells.toList,false⟩::R):=by
 intro a w o K Q ho _ hs hp hk;obtain⟨i0,hi,wt⟩:=il.1 dg;have hh:=hp.new z.cells e 1 sz (by unfold maxLen;omega) G;unfold Oper.wp
 have hr:(Instr.alloc e true (.tuple #[])).run P w= .ok (.pointer (some ⟨w.heap.size,0,none⟩)) (w.alloc (.cells z.cells e)):=by
  simp[Instr.alloc,zeroValue,typeInfo,hi,wt,newVar,newRow]
 simp only[execOp,ho,kg,hr,jw,ny,Oper.upon];exact hk _ _ _ hh ⟨_,rfl,rfl⟩
theorem bO {e:TypeId} {x:Operand} {v:Value} {sz:Nat} (hx:ev L x=some v) (hz:v.cells.size=sz):Ac P n B w0 (.box e x) ty L R (λu R'=> ∃g,u= .pointer (some ⟨g,0,none⟩)/\R'=⟨e,sz,some ⟨g,0,none⟩,1,1,v.cells.toList,false⟩::R):=by
 intro a w o K Q ho _ hs hp hk;have hh:=hp.new v.cells e 1 sz (by unfold maxLen;omega) G;unfold Oper.wp
 have hr:(Instr.box e v).run P w= .ok (.pointer (some ⟨w.heap.size,0,none⟩)) (w.alloc (.cells v.cells e)):=by
  simp[Instr.box,newVar,newRow]
 simp only[execOp,ho,hs.ev hx,kg,hr,jw,ny,Oper.upon];exact hk _ _ _ hh ⟨_,rfl,rfl⟩
def evp (L:Env):List (Nat × Operand)->Option (List (Nat × Value))
 |[]=>some []
 |(i,x)::r=>match ev L x,evp L r with
  |some v,some vs=>some ((i,v)::vs)
  |_,_=>none
theorem Sat.evp {a:Act} (hs:Sat n L a): ∀ {xs:List (Nat × Operand)} {vs:List (Nat × Value)},evp L xs=some vs->xs.map (λp=>(p.1,a.eval p.2))=vs
 |[],vs,h=>by simpa [Eng.evp] using h
 | (i,x)::r,vs,h=>by
  unfold Eng.evp at h;split at h
  ·rename_i v us h1 h2;obtain rfl:=jc h;rw[lm,hs.ev h1,hs.evp h2]
  ·cases h
theorem qA {t e:TypeId} {z:Value} {sz len:Nat} {ps:List (Nat × Operand)} {vs:List (Nat × Value)} {cells:Array Value} (ht:P.underlying t=some (.slice e)) (dg:(P.info? e).map (λi=>(i.zero,i.size))=some (some z,sz)) (hv:evp L ps=some vs)
  (sg:Nat.ble (len*sz) 16777216=true) (hl:Nat.ble len 16777216=true)
  (l6:Instr.fill (λi=>some (i*sz,sz)) ((Array.range (len*sz)).map ((bif Nat.beq (len*sz) 0 then #[] else z.cells)[· %(bif Nat.beq (len*sz) 0 then #[] else z.cells).size]!)) vs=some cells) (hc:cells.size=len*sz):
  Ac P n B w0 (.buildSlice t len ps.toArray) ty L R (λv R'=> ∃g,v= .slice (some ⟨g,0,none⟩) len len/\R'=⟨e,sz,some ⟨g,0,none⟩,len,len,cells.toList,false⟩::R):=by
 intro a w o K Q ho _ hs hp hk;obtain⟨i0,hi,a8⟩:=il.1 dg;simp only[yt] at a8;obtain⟨wt,i5⟩:=a8;have Qp:=au sg;have hlm:=au hl;have Oy:=hs.evp hv
 have hr:(Instr.buildSlice t len (ps.toArray.map λp=>(p.1,a.eval p.2))).run P w= .ok (.slice (some ⟨w.heap.size,0,none⟩) len len) (w.alloc (.cells cells e)):=by
  have pf: ¬(16777216<len*sz):=G
  by_cases h0:len*sz=0
  ·have e0: ∀f:Nat->Value,Array.map f (Array.range 0)= #[]:=λf=>by simp[Array.range_zero']
   rw[h0,e0] at l6;simp[Instr.buildSlice,ni ht,sizeOf,typeInfo,hi,i5,h0,Oy,newRow,l6,e0]
  ·have hb:Nat.beq (len*sz) 0=false:=by
    cases hb:Nat.beq (len*sz) 0 with
    |true=>exact absurd (yh hb) h0
    |false=>rfl
   simp only[hb,cond_false] at l6;simp[Instr.buildSlice,ni ht,sizeOf,typeInfo,hi,i5,h0,zeroValue,wt,newRow,Oy,l6,pf]
 unfold Oper.wp;simp only[execOp,ho,kg,hr,jw,ny,Oper.upon];exact hk _ _ _ (hp.new cells e len sz (by unfold maxLen;omega) hc) ⟨_,rfl,rfl⟩
theorem aSk (l vs:AG) (j k:Nat) (h1:j+vs.length<=k) (h2:k<=l.length):(l.take j++vs++l.drop (j+vs.length)).take k=(l.take k).take j++vs++(l.take k).drop (j+vs.length):=by
 apply uo;intro i;simp only[og,List.getElem?_append,ah,ax,qm];have e1:min j l.length=j:=G
 have e2:min j (min k l.length)=j:=G
 rw[e1,e2];by_cases hi:i<k
 ·by_cases hj:i<j
  ·simp[hi,hj,show i<j+vs.length by omega]
  ·by_cases hv:i<j+vs.length
   ·simp[hi,hj,hv]
   ·have:j+vs.length+(i-(j+vs.length))=i:=G
    simp[hi,hv,this]
 ·have h4: ¬i<j+vs.length:=G
  have:j+vs.length+(i-(j+vs.length))=i:=G
  simp[hi,h4,this]
theorem Row.lies_seg {w:World} {r:Row} (h:r.lies B w) (pk:r.ro=false) {g:Nat} (hA:r.A=some ⟨g,0,none⟩) (j:Nat) (vs:AG) (hj:j+vs.length<=r.xs.length) (h1: ∀v∈vs,v.oneCell'=true) {t:TypeId} {v:Value} (hv:v.cells.toList=vs) (gs:(P.info? t).map (·.size)=some vs.length):
  ∃w',(storeVar t ((⟨g,0,none⟩:Addr).add j) v).run P w= .ok () w'/\w.grownBy w' (some g)/\Row.lies B w' {r with xs:=r.xs.take j++vs++r.xs.drop (j+vs.length)}:=by
 have hw:=Row.lies_w h pk;rcases hw.2 with⟨hn,_⟩|⟨g',cap,cur,hs,hb,hg,hnc,tk,lf,ht⟩
 ·rw[hA] at hn;cases hn
 ·rw [hA] at hs;simp only[ku,lv,Aj,Au,Ag] at hs;obtain⟨rfl,rfl⟩:=hs;have Mq:r.xs.length=r.n*r.sz:=hw.1;have pv:r.n*r.sz<=cur.size:=by rw[lf];exact ut _ hnc
  have Lq:(⟨g,0,none⟩:Addr).add j=⟨g,j,none⟩:=by unfold Addr.add;split<;>simp_all
  have hr:=run_storeCells_at P g j r.e vs 0 cur w hg cH h1;simp only[qo] at hr;obtain⟨i0,aw,hsz0⟩:=il.1 gs;have hvl:v.cells.size=vs.length:=by rw[<-jr,hv]
  refine⟨w.setRow g (cur.toList.take j++vs++cur.toList.drop (j+vs.length)).toArray,?_,⟨rfl,rfl,rfl,cD,λk _ hk=>Ji w g k _ (λe=>hk (by simp[e]))⟩,?_⟩
  ·rw [Lq];have fd: ¬(v.cells.size≠vs.length):=G
   simp only[storeVar,kg,sizeOf,typeInfo,program,Sem.run,jw,aw,ny,hsz0,fd,xk,hv];exact hr
  ·unfold Row.lies;simp only[pk];refine⟨?_, .inr ⟨g,r.c,_,by rw[hA],hb,Ki w g cur _ r.e _ hg,hnc,tk,?_,?_⟩⟩
   ·simp only[ah,ax,az];omega
   ·simp only[ql,ah,ax,az,jr];omega
   ·simp only;rw[aSk _ _ _ _ G (by rw[jr];omega),ht]
theorem PE {x y:Operand} {t:TypeId} {p:AF} {j:Nat} {r:Row} {v:Value} {vs:AG} {g:Nat} (i:Nat) (hi:R[i]? =some r) (pk:r.ro=false) (hA:r.A=some ⟨g,0,none⟩) (gs:(P.info? t).map (·.size)=some vs.length) (hx:ev L x=some (.pointer p)) (cm:p=pat r.A j) (hy:ev L y=some v) (hv:v.cells.toList=vs) (h1: ∀v∈vs,v.oneCell'=true) (hj:j+vs.length<=r.xs.length):
  Ac P n B w0 (.store t x y) ty L R (λ_ R'=>R'=R.set i {r with xs:=r.xs.take j++vs++r.xs.drop (j+vs.length)}):=by
 intro a w o K Q ho _ hs hp hk;subst cm;obtain⟨w',hr,hg,hl⟩:=Row.lies_seg (P:=P) (hp.own r (fw hi)) pk hA j vs hj h1 hv gs;unfold Oper.wp;simp only[execOp,ho,Instr.storeAt,hs.ev hx,hs.ev hy,pat,hA,ky,Instr.sureAddr,kg,ny,jw,hr,Oper.upon];refine hk undef w' _ ?_ rfl;refine hp.upd hi hg (LF _ _ _ _ hr) (λk hk=> ?_) hl (λa' oe=> .inl ⟨a',oe,rfl⟩);obtain rfl:=jc hk;exact⟨_,hA,rfl⟩
theorem bBe (l:AG) (j:Nat) (v:Value) (h:j<l.length):l.take j++[v]++l.drop (j+1)=l.set j v:=by
 rw[Dc,df h];simp
theorem XF {x y:Operand} {t:TypeId} {p:AF} {j:Nat} {r:Row} {v:Value} {g:Nat} (i:Nat) (hi:R[i]? =some r) (pk:r.ro=false) (hA:r.A=some ⟨g,0,none⟩) (gs:(P.info? t).map (·.size)=some 1) (hx:ev L x=some (.pointer p)) (cm:p=pat r.A j) (hy:ev L y=some v) (hv:v.cells.toList=[v]) (h1:v.oneCell'=true) (hj:j<r.xs.length):
  Ac P n B w0 (.store t x y) ty L R (λ_ R'=>R'=R.set i {r with xs:=r.xs.set j v}):=by
 have:=PE (P:=P) (n:=n) (B:=B) (w0:=w0) (ty:=ty) i hi pk hA (vs:=[v]) gs hx cm hy hv (by simpa using h1) (by rw[gq];omega);simpa only[gq,bBe _ _ _ hj] using this
theorem pJ {s x:Operand} {t:TypeId} {z:Value} {bytes m c2:Nat} {A2:AF} {r:Row} {news:AG} (i:Nat) (hi:R[i]? =some r) (pk:r.ro=false) (ht:P.underlying t=some (.slice r.e)) (dg:(P.info? r.e).map (λi=>(i.zero,i.size,i.bytes))=some (some z,r.sz,bytes)) (hz:z.cells.size=r.sz) (hsz:Nat.blt 0 r.sz=true) (o9:Nat.blt 0 bytes=true)
  (hs:ev L s=some (.slice r.A r.n r.c)) (hx:ev L x=some (.slice A2 m c2)) (jj:RdC B w0 R A2 m c2 r.sz news) (h1: ∀u∈news,u.oneCell'=true) (mc:(r.n+m)*bytes<=140737488355328):
  Ac P n B w0 (.call {callee:= .builtin .append,args:= #[s,x],argTypes:= #[t,t]}) ty L R (λv R'=> ∃A' c',v= .slice A' (r.n+m) c'/\R'=R.set i ⟨r.e,r.sz,A',r.n+m,c',r.xs++news,false⟩):=by
 intro a w o K Q ho _ ee hp hk;obtain⟨i0,aw,a8⟩:=il.1 dg;simp only[yt] at a8;obtain⟨wt,i5,Ix⟩:=a8;have Ps:=au hsz;have Xx:=au o9;have hr:=hp.own r (fw hi);have ge:=Row.lies_w hr pk;have g8:=jj w hp;have hlen:r.n+m<=140737488355328:=qx (Nat.le_mul_of_pos_right _ Xx) mc
 have mw: ∃v' w',(Builtin.append_ #[t,t] o.type #[.slice r.A r.n r.c, .slice A2 m c2]).run P w= .ok v' w'/\w'.ownsRow B r.e r.sz v' (r.n+m) (r.xs++news)/\w.grownBy w' (Value.ownBlock (.slice r.A r.n r.c))/\(v'.ownBlock=Value.ownBlock (.slice r.A r.n r.c)\/v'.ownBlock=some w.heap.size):=by
  rcases ed m with h0|h0
  ·subst h0;have hn:news=[]:=ek (by rw[g8.len];omega);subst hn;rcases A2 with _|ad
   ·refine ⟨_,w,?_,by simpa using ge,World.grownBy_refl' w _, .inl rfl⟩;rcases ge.2 with⟨hv,hn⟩|⟨g,cap,cur,hv,_,_,hnc,_⟩
    ·rw [hv];simp[Builtin.append_,ni ht,sizeOf,typeInfo,aw,Builtin.lenOf,Builtin.firstCells]
    ·rw [hv];simp[Builtin.append_,ni ht,sizeOf,typeInfo,aw,Builtin.lenOf,Builtin.firstCells,hnc,storeCells]
   ·obtain ⟨v',w',h2,h3,h4,_,h5⟩:=run_append_own_at (P:=P) w B t o.type r.e i0 z r.sz bytes ht aw wt i5 Ix hz Ps _ r.n r.xs ge ad 0 c2 [] cD (λj u hu=>by simp at hu) h1 (by unfold maxLen;omega) mc hp.base;exact⟨v',w',h2,h3,h4,h5⟩
  ·have fd:0<news.length:=by rw[g8.len];exact Jr h0 Ps
   obtain⟨ad,rfl,_⟩:=g8.at_ 0 news[0] cD
   obtain⟨v',w',h2,h3,h4,_,h5⟩:=run_append_own_at (P:=P) w B t o.type r.e i0 z r.sz bytes ht aw wt i5 Ix hz Ps _ r.n r.xs ge ad m c2 news g8.len (λj u hu=>by
    obtain⟨a',oe,hc⟩:=g8.at_ j u hu;obtain rfl:=jc oe
    exact hc) h1 (by unfold maxLen;omega) mc hp.base
   exact⟨v',w',h2,h3,h4,h5⟩
 obtain⟨v',w',h2,h3,h4,h5⟩:=mw
 have Fi: ∃A' c',v'= .slice A' (r.n+m) c':=by
  rcases h3.2 with⟨rfl,hn⟩|⟨g,cap,cur,rfl,_⟩
  ·exact⟨none,0,by rw[hn]⟩
  ·exact⟨_,cap,rfl⟩
 obtain⟨A',c',rfl⟩:=Fi;unfold Oper.wp execOp;simp only[ho,resolve,invoke,builtin,kg,ny,jw,uj,lm,si,ee.ev hs,ee.ev hx,h2,Oper.upon];refine hk _ w' _ ?_ ⟨A',c',rfl,rfl⟩;refine hp.upd hi h4 (LF _ _ _ _ h2) (λk hk=> ?_) ?_ (λa' oe=> ?_)
 ·cases hA:r.A with
  |none=>rw[hA] at hk;simp[Value.ownBlock] at hk
  |some a1=>rw[hA] at hk;simp only[Value.ownBlock,lv] at hk;exact⟨a1,rfl,hk⟩
 ·exact h3
 ·have Lp:A'=some a':=oe;subst Lp;rcases h5 with h5|h5
  ·cases hA:r.A with
   |none=>rw[hA] at h5;simp[Value.ownBlock] at h5
   |some a1=>rw[hA] at h5;simp only[Value.ownBlock,lv] at h5;exact .inl ⟨a1,rfl,h5.symm⟩
  ·simp only[Value.ownBlock,lv] at h5;exact .inr G
end
end Go.Eng
namespace Go.Eng
open Go Go.RowKit
def bP (P:Program) {α:Type} (m:Sem α):Prop:= ∀w w1 v,m.run P w= .ok v w1-> ∀w',m.run P w'= .ok v w'
def kZ (P:Program) {α:Type} (m:Sem α):Prop:= ∀w w1 v,m.run P w≠ .ok v w1
section
variable {P:Program} {α β:Type}
theorem kZ.free {m:Sem α} (h:kZ P m):bP P m:=λw w1 v e=>absurd e (h w w1 v)
theorem bP.pure (a:α):bP P (Pure.pure a:Sem α):=λw w1 v h w'=>by
 simp only[ny,Co] at h ⊢;exact⟨h.1,trivial⟩
theorem bP.bind {m:Sem α} {f:α->Sem β} (hm:bP P m) (hf: ∀a,bP P (f a)):bP P (m>>=f):=λw w1 v h w'=>by
 rw[kg] at h ⊢;cases hr:m.run P w with
 |halt x w2=>rw[hr] at h;cases h
 |ok a w2=>
  rw[hr] at h;rw[hm w w2 a hr w'];exact hf a w2 w1 v h w'
theorem kZ.bind {m:Sem α} {f:α->Sem β} (hf: ∀a,kZ P (f a)):kZ P (m>>=f):=λw w1 v h=>by
 rw[kg] at h;cases hr:m.run P w with
 |halt x w2=>rw[hr] at h;cases h
 |ok a w2=>
  rw[hr] at h;exact hf a w2 w1 v h
theorem kZ.left {m:Sem α} {f:α->Sem β} (hm:kZ P m):kZ P (m>>=f):=λw w1 v h=>by
 rw[kg] at h;cases hr:m.run P w with
 |halt x w2=>rw[hr] at h;cases h
 |ok a w2=>exact hm w w2 a hr
theorem dJ (x:Halt):kZ P (.halt x:Sem α):=λw w1 v h=>by cases h
theorem wJ (e:RuntimeError):kZ P (runtimePanic e:Sem α):=by
 unfold runtimePanic;refine kZ.bind λp=> ?_;cases e with
 |typeAssertion i c a m=>exact kZ.bind λ_=>kZ.bind λ_=>dJ _
 |panicNil=>exact kZ.bind λ_=>kZ.bind λ_=>dJ _
 |_=>exact dJ _
theorem wV (t:TypeId):bP P (underlying t):=by
 unfold underlying;refine bP.bind (λw w1 v h w'=> ?_) λp=> ?_
 ·simp only[program,Sem.run,Co] at h ⊢;exact⟨h.1,trivial⟩
 ·split
  ·exact bP.pure _
  ·exact(dJ _).free
theorem TG (t:TypeId):bP P (typeInfo t):=by
 unfold typeInfo;refine bP.bind (λw w1 v h w'=> ?_) λp=> ?_
 ·simp only[program,Sem.run,Co] at h ⊢;exact⟨h.1,trivial⟩
 ·split
  ·exact bP.pure _
  ·exact(dJ _).free
theorem qF (t:TypeId):bP P (sizeOf t):=bP.bind (TG t) λ_=>bP.pure _
theorem oI (x:Value) (y:Nat) (c:BoundsCode):bP P (Instr.sliceBound x y c):=by
 unfold Instr.sliceBound;refine bP.bind ?_ λp=> ?_
 ·unfold asIntOf;split
  ·exact bP.pure _
  ·exact(dJ _).free
  ·exact(dJ _).free
 ·obtain ⟨k,i⟩:=p;simp only;split
  ·exact bP.pure _
  ·unfold boundsPanic;dsimp only;split
   ·exact(kZ.bind λ_=>wJ _).free
   ·exact(kZ.bind λ_=>wJ _).free
theorem rP (b:Bool) (n c:Nat) (lo hi mx:Option Value):bP P (Instr.sliceBounds b n c lo hi mx):=by
 unfold Instr.sliceBounds;cases mx with
 | none=>
  refine bP.bind (bP.pure _) λm=> ?_;cases hi with
  |none=>
   refine bP.bind (bP.pure _) λh=> ?_;cases lo with
   |none=>exact bP.bind (bP.pure _) λl=>bP.pure _
   |some v=>exact bP.bind (oI _ _ _) λl=>bP.pure _
  |some u=>
   refine bP.bind (oI _ _ _) λh=> ?_;cases lo with
   |none=>exact bP.bind (bP.pure _) λl=>bP.pure _
   |some v=>exact bP.bind (oI _ _ _) λl=>bP.pure _
 | some x=>
  refine bP.bind (oI _ _ _) λm=> ?_;cases hi with
  |none=>exact(kZ.left (dJ _)).free
  |some u=>
   refine bP.bind (oI _ _ _) λh=> ?_;cases lo with
   |none=>exact bP.bind (bP.pure _) λl=>bP.pure _
   |some v=>exact bP.bind (oI _ _ _) λl=>bP.pure _
theorem aPm (x:Value):bP P (asAddr x):=by
 unfold asAddr;split
 ·exact bP.pure _
 ·exact(wJ _).free
 ·exact(dJ _).free
theorem aGr (t:TypeId) (x:Value) (lo hi mx:Option Value):bP P (Instr.slice t x lo hi mx):=by
 unfold Instr.slice;refine bP.bind (wV t) λd=> ?_;split
 ·split
  ·exact(kZ.left (dJ _)).free
  ·exact bP.bind (rP _ _ _ _ _ _) λ_=>bP.pure _
 ·exact bP.bind (rP _ _ _ _ _ _) λ_=>bP.bind (qF _) λ_=>bP.pure _
 ·refine bP.bind (aPm _) λ_=>bP.bind (wV _) λ_=> ?_;split
  ·exact bP.bind (rP _ _ _ _ _ _) λ_=>bP.bind (qF _) λ_=>bP.pure _
  ·exact(dJ _).free
 ·exact(dJ _).free
theorem aPk (x:Value):bP P (Instr.sureAddr x):=by
 unfold Instr.sureAddr;split
 ·exact bP.pure _
 ·exact(dJ _).free
theorem WM (t:TypeId) (x:Value) (lo hi mx:Option Value):bP P (Instr.sliceAt t x lo hi mx):=by
 unfold Instr.sliceAt;refine bP.bind (wV t) λd=> ?_;split
 ·exact bP.bind (aPk _) λ_=>bP.bind (rP _ _ _ _ _ _) λ_=>bP.bind (qF _) λ_=>bP.pure _
 ·exact aGr _ _ _ _ _
end
def bKb (P:Program) {α:Type} (m:Sem α):Prop:= ∀w v,m.run P w= .ok v w-> ∀w',m.run P w'= .ok v w'
def iU (P:Program) {α:Type} (m:Sem α):Prop:= ∀w v,m.run P w≠ .ok v w
section
variable {P:Program} {α β:Type}
theorem bP.stay {m:Sem α} (h:bP P m):bKb P m:=λw v e=>h w w v e
theorem iU.stay {m:Sem α} (h:iU P m):bKb P m:=λw v e=>absurd e (h w v)
theorem kZ.noSame {m:Sem α} (h:kZ P m):iU P m:=λw v e=>h w w v e
theorem iU.bind {m:Sem α} {f:α->Sem β} (hm:bP P m) (hf: ∀a,iU P (f a)):iU P (m>>=f):=λw v h=>by
 rw[kg] at h;cases hr:m.run P w with
 |halt x w2=>rw[hr] at h;cases h
 |ok a w2=>
  have h2:=hm w w2 a hr w;rw[hr] at h2;cases h2;rw[hr] at h;exact hf a w v h
theorem iU.left {m:Sem α} {f:α->β} (hm:iU P m):iU P (m>>=λa=>(Pure.pure (f a):Sem β)):=λw v h=>by
 rw[kg] at h;cases hr:m.run P w with
 |halt x w2=>rw[hr] at h;cases h
 |ok a w2=>
  rw[hr] at h;simp only[Result.andThen,ny,Co] at h;rw[h.2] at hr;exact hm w a hr
theorem TF (t:TypeId):bP P (zeroValue t):=by
 unfold zeroValue;refine bP.bind (TG t) λi=> ?_;split
 ·exact bP.pure _
 ·exact(dJ _).free
theorem rY (e:TypeId) (cs:Array Value):iU P (newRow e cs):=λw v h=>by
 simp[newRow,newObj,Sem.run,Result.andThen] at h;have:=bq (λw:World=>w.heap.size) h.2;unfold World.alloc at this;simp only[Array.size_push] at this;omega
theorem NK (f:α->Sem β) (hf: ∀a,bP P (f a)): ∀l:List α,bP P (l.mapM f)
 |[]=>by rw[List.mapM_nil];exact bP.pure _
 |a::l=>by
  rw[List.mapM_cons];exact bP.bind (hf a) λ_=>bP.bind (NK f hf l) λ_=>bP.pure _
theorem aPl (f:α->Sem β) (hf: ∀a,bP P (f a)) (l:Array α):bP P (l.mapM f):=by
 rw[Array.mapM_eq_mapM_toList,<-bind_pure_comp];exact bP.bind (NK f hf _) λ_=>bP.pure _
theorem aGs (t:TypeId) (ps:Array (Nat × Value)):bP P (Instr.build t ps):=by
 unfold Instr.build;refine bP.bind (TF t) λz=> ?_;refine bP.bind (wV t) λd=> ?_;split
 ·refine bP.bind (aPl _ (λ_=>bP.bind (qF _) λ_=>bP.pure _) _) λ_=> ?_;split
  ·exact bP.pure _
  ·exact(dJ _).free
 ·refine bP.bind (qF _) λ_=> ?_;split
  ·exact bP.pure _
  ·exact(dJ _).free
 ·exact(dJ _).free
theorem CV (t:TypeId) (n:Nat) (ps:Array (Nat × Value)):iU P (Instr.buildSlice t n ps):=by
 unfold Instr.buildSlice;refine iU.bind (wV t) λd=> ?_;split
 ·refine iU.bind (qF _) λs=> ?_;dsimp only;split
  ·exact(kZ.left (dJ _)).noSame
  ·split
   ·refine iU.bind (bP.pure _) λz=> ?_;split
    ·exact iU.left (rY _ _)
    ·exact(dJ _).noSame
   ·refine iU.bind (TF _) λz=> ?_;refine iU.bind (bP.pure _) λz=> ?_;split
    ·exact iU.left (rY _ _)
    ·exact(dJ _).noSame
 ·exact(dJ _).noSame
theorem aFz (t:TypeId) (v:Value):iU P (Instr.box t v):=iU.left (rY _ _)
end
def WJ:Op->Bool
 | .move _=>true
 | .slice .. =>true
 | .build .. =>true
 | .buildSlice .. =>true
 | .box .. =>true
 | .extract .. =>true
 |_=>false
theorem WN {P:Program} (v:Value) (i:Nat):bP P (Instr.extract v i):=by
 unfold Instr.extract
 repeat' first
  |exact bP.pure _
  |exact(dJ _).free
  |split
theorem aKp {P:Program} {o:Oper} (h:WJ o.op=true) (ρ:Operand->Value):bKb P (execOp ρ o):=by
 unfold execOp;cases ho:o.op<;>(try (rw[ho] at h;cases h))
 all_goals first
  |exact(bP.pure _).stay
  |exact(iU.left (aFz _ _)).stay
  |exact(bP.bind (aGs _ _) λ_=>bP.pure _).stay
  |exact(iU.left (CV _ _ _)).stay
  |exact(bP.bind (WM _ _ _ _ _) λ_=>bP.pure _).stay
  |exact(bP.bind (WN _ _) λ_=>bP.pure _).stay
section
variable {P:Program} {ops:Array Oper} {Q:Exit->Act->World->Prop}
def anc (ops:Array Oper):Nat->Nat->Nat->Bool
 |0,_,_=>false
 |f+1,j,k=>((ops[j]?).map (·.after.any λe=>Region.binds .any e && (Nat.beq e.on k||anc ops f e.on k))).getD false
def OX (ops:Array Oper) (ab:AI) (i:Nat):Bool:=
 (List.range ops.size).all λk=> !ab.getD k false||anc ops ops.size i k||((ops[k]?).map (WJ ·.op)).getD false
def rQ (ops:Array Oper) (ab:AI):Bool:=
 (List.range ops.size).all λk=> !ab.getD k false||((ops[k]?).map (·.after.all λe=> !Region.binds .any e||ab.getD e.on false)).getD false
theorem ED {ab:AI} (h:rQ ops ab=true) {k:Nat} {o:Oper} (hk:ops[k]? =some o) (hl:ab.getD k false=true): ∀e∈o.after,Region.binds .any e=true->ab.getD e.on false=true:=by
 intro e he hb;have bc:k<ops.size:=(gm.1 hk).1;have:=xe.1 h k (jq.2 bc);rw[hl,hk] at this;simp only[Cf,Eh,ky,oh] at this;obtain⟨q,hq,rfl⟩:=Array.mem_iff_getElem.1 he;have h2:=Gv.1 this q hq;rw[hb] at h2;simpa using h2
theorem zZ {ab:AI} (hc:rQ ops ab=true): ∀(f j k:Nat) (oj:Oper),ops[j]? =some oj->(∀e∈oj.after,Region.binds .any e=true->ab.getD e.on false=true)->anc ops f j k=true->ab.getD k false=true
 |0,_,_,_,_,_,h=>by cases h
 | f+1,j,k,oj,k7,ju,h=>by
  unfold anc at h;rw[k7] at h;simp only[ky,oh,Array.any_eq_true] at h;obtain⟨q,hq,h⟩:=h;have he:oj.after[q]∈oj.after:=Gw hq;simp only[pu,zu] at h;have hl:=ju _ he h.1;rcases h.2 with h2|h2
  ·rw[<-yh h2];exact hl
  ·cases ho:ops[oj.after[q].on]? with
   |none=>
    exfalso;cases f with
    |zero=>cases h2
    |succ f=>unfold anc at h2;rw[ho] at h2;simp at h2
   |some om=>exact zZ hc f _ k om ho (ED hc ho hl) h2
theorem IJ {ab:AI} (hc:rQ ops ab=true) {j:Nat} {oj:Oper} (k7:ops[j]? =some oj) (ju: ∀e∈oj.after,Region.binds .any e=true->ab.getD e.on false=true):rQ ops (ab.setIfInBounds j true)=true:=by
 have up: ∀k,ab.getD k false=true->(ab.setIfInBounds j true).getD k false=true:=by
  intro k hk;by_cases e:j=k
  ·subst e
   have bc:j<ab.size:=by
    rcases fo j ab.size with h|h
    ·exact h
    ·simp[zf h] at hk
   simp[bc]
  ·simp only[xm,yz,e,xk] at hk ⊢;exact hk
 unfold rQ;refine xe.2 λk hk=> ?_;by_cases Qh:k=j
 ·subst Qh;rw[k7];simp only[ky,oh]
  have:(oj.after.all λe=> !Region.binds .any e||(ab.setIfInBounds k true).getD e.on false)=true:=by
   refine Gv.2 λq hq=> ?_;cases hb:Region.binds .any oj.after[q] with
   |false=>rfl
   |true=>simp only[Cf,Eh];exact up _ (ju _ (Gw hq) hb)
  rw[this,Bool.or_true]
 ·cases hl:ab.getD k false with
  | false=>
   have:(ab.setIfInBounds j true).getD k false=false:=by
    simp only[xm,yz,Fx Qh,xk] at hl ⊢;exact hl
   rw[this];rfl
  | true=>
   cases ho:ops[k]? with
   |none=>
    have h0:=jq.1 hk;rw[Array.getElem?_eq_none_iff] at ho;omega
   | some ok=>
    have h1:=ED hc ho hl
    have:(ok.after.all λe=> !Region.binds .any e||(ab.setIfInBounds j true).getD e.on false)=true:=by
     refine Gv.2 λq hq=> ?_;cases hb:Region.binds .any ok.after[q] with
     |false=>rfl
     |true=>simp only[Cf,Eh];exact up _ (h1 _ (Gw hq) hb)
    simp only[ky,oh,this,Bool.or_true]
def vH (P:Program) (ops:Array Oper) (Q:Exit->Act->World->Prop):Nat->(World->Prop)->AI->Act->World->Prop
 |0,_,ab,a,w=>Region.ready .any ops ab=[]/\Q .normal a w
 |al+1,S,ab,a,w=>(Region.ready .any ops ab=[]->Q .normal a w)/\
  ∀i∈Region.ready .any ops ab,wpOp P ops Q i (λa' w'=> ∃S':World->Prop,S' w'/\(OX ops ab i=true\/ ∀x,S' x->S x)/\vH P ops Q al S' (ab.setIfInBounds i true) a' w') a w
theorem zC: ∀(al:Nat) (S:World->Prop) (ab:AI) (a:Act) (w:World),vH P ops Q al S ab a w->wpAny P .any ops Q al ab a w
 |0,_,_,_,_,h=>h
 |al+1,_,_,_,_,h=>⟨h.1,λi hi=>wpOp_mono (λa' w' ⟨S',_,_,h'⟩=>zC al S' _ a' w' h') (h.2 i hi)⟩
theorem YieldsIf.shrink {S S':World->Prop} {o:Oper} {v:Value} {a:Act} (h:YieldsIf P ops S o v a) (hs: ∀x,S' x->S x):YieldsIf P ops S' o v a:=
 h.imp (λ⟨hw,hv⟩=>⟨hw,λw Nu=>hv w (hs w Nu)⟩) id
theorem AZ {i:Nat} {oi:Oper} {v:Value} (hi:ops[i]? =some oi) (Hx: ∀(j:Nat) (o:Oper) cs b,ops[j]? =some o->o.op≠ .select cs b)
  (hQ: ∀c a w,Q (.panic c) (a.put oi.dst v) w->Q (.panic c) a w):
  ∀(al:Nat) (S:World->Prop) (ab:AI) (a:Act) (w:World),
   rQ ops ab=true->(∀j oj,ops[j]? =some oj->j≠i->ab.getD j true=false->(∀e∈oj.after,Region.binds .any e=true->e.on≠i)->oi.apart ops oj=true)->
   i∈Region.ready .any ops ab->YieldsIf P ops S oi v a->S w->
   vH P ops Q al S (ab.setIfInBounds i true) (a.put oi.dst v) w->vH P ops Q (al+1) S ab a w:=by
 intro al
 induction al with
 | zero=>
  intro S ab a w _ _ hr hy hS H;refine⟨λh=>(by rw[h] at hr;cases hr),λj hj=> ?_⟩;by_cases wi:j=i
  ·subst wi;exact hy.wpOp hi hS ⟨S,hS, .inr λ_ h=>h,H⟩
  ·have:=Gu hj wi;rw[H.1] at this;cases this
 | succ al ih=>
  intro S ab a w mj f8 hr hy hS H;refine⟨λh=>(by rw[h] at hr;cases hr),λj hj=> ?_⟩;by_cases wi:j=i
  ·subst wi;exact hy.wpOp hi hS ⟨S,hS, .inr λ_ h=>h,H⟩
  ·have h1:=H.2 j (Gu hj wi);obtain⟨Fo,oj,k7,ju⟩:=Eg.1 hj
   have tx:i<ab.size:=by
    have h0:=(Eg.1 hr).1;rcases fo i ab.size with h'|h'
    ·exact h'
    ·simp[zf h'] at h0
   have s5: ∀e∈oj.after,Region.binds .any e=true->e.on≠i:=λe he hb j8=>by
    have h1:=ju e he hb;have h0:=(Eg.1 hr).1;rw[j8] at h1;simp[tx] at h0 h1;rw[h0] at h1;cases h1
   have h2:=wpOp_putIf k7 (f8 j oj k7 wi Fo s5) (λcs b=>Hx i oi cs b hi) (λcs b=>Hx j oj cs b k7) hQ hy h1
   have k4: ∀k ok,ops[k]? =some ok->k≠i->(ab.setIfInBounds j true).getD k true=false->
     (∀e∈ok.after,Region.binds .any e=true->e.on≠i)->oi.apart ops ok=true:=λk ok hk Qg i4 mn=>by
    refine f8 k ok hk Qg ?_ mn;by_cases Ta:j=k
    ·subst Ta;exact Fo
    ·rw[getD_set_ne true Ta] at i4;exact i4
   refine wpOp_mono (λa' w' ⟨Qt,S',Sb,uc,hB⟩=> ?_) h2
   have i4:ab.getD i false=false:=by
    have h0:=(Eg.1 hr).1;simp[tx] at h0 ⊢;exact h0
   have Nc:(OX ops ab j=true\/ ∀x,S' x->S x)/\YieldsIf P ops S' oi v a':=by
    rcases uc with hb|hs
    ·have hio:i<ops.size:=(gm.1 hi).1;have tj:=xe.1 hb i (jq.2 hio);have e1:(ab.setIfInBounds i true).getD i false=true:=by simp[tx]
     rw[e1,hi] at tj;simp only[Cf,Eh,ky,oh,zu] at tj;rcases tj with ha|hm
     ·have:=zZ mj _ j i oj k7 ju ha;rw[i4] at this;cases this
     ·refine ⟨.inl ?_,?_⟩
      ·refine xe.2 λk hk=> ?_;have h3:=xe.1 hb k hk;by_cases e:i=k
       ·subst e;rw[i4];rfl
       ·simp only[xm,yz,e,xk] at h3 ⊢;exact h3
      ·exact Qt.imp (λ⟨hw,hv⟩=>⟨hw,λMs _=>aKp hm _ _ _ (hv w hS) Ms⟩) id
    ·exact⟨.inr hs,YieldsIf.shrink Qt hs⟩
   refine⟨S',Sb,Nc.1,ih S' (ab.setIfInBounds j true) a' w' (IJ mj k7 ju) k4 (Gu hr (Fx wi)) Nc.2 Sb ?_⟩;rw[Array.setIfInBounds_comm _ _ wi];exact hB
end
section
variable {P:Program} {n:Nd} {B:Nat} {w0:World} {ops:Array Oper} {K:Env->List Row->Prop} {L:Env} {R:List Row} {op:Op} {ty:TypeId} {pos:String} {nc:Array Edge}
def WD (P:Program) (n:Nd) (B:Nat) (w0:World) (ops:Array Oper) (K:Env->List Row->Prop) (al:Nat) (ab:AI) (L:Env) (R:List Row):Prop:=
 ∀a w (Q:Exit->Act->World->Prop),Sat n L a->Hp B w0 w R->(∀c a w,¬Q (.panic c) a w)->(∀a' w' L' R',Sat n L' a'->Hp B w0 w' R'->K L' R'->Q .normal a' w')->vH P ops Q al (λw=>Hp B w0 w R) ab a w
theorem bI {id:Nat} {l:List Oper} {Q:fC} (hm:P.follows .mixedOrders=true) (h:WD P n B w0 l.toArray Q.nrm l.toArray.size (Array.replicate l.toArray.size false) L R) (hd:yT n.rd l=true:=by exact rfl):W P n B w0 (.region id l.toArray true) Q L R:=by
 intro a w hs hp;refine Jn hm (TZ XK hd _ _ _ _<|zC _ _ _ _ _ (h a _ _ hs (hp.drawn _ (Eu _)) (λ_ _ _ h=>h) λ_ _ L' R' ee cm hk=>⟨L',R',ee,cm,hk⟩))
def chk (ops:Array Oper) (ab:AI) (i:Nat):Bool:=Region.noSelect ops && Region.free .any ops ab i && (Region.ready .any ops ab).contains i && rQ ops ab
theorem JC {i:Nat} {d:Nat} {v:Value} {o:Oper} {al:Nat} {ab:AI} (hi:ops[i]? =some o) (hd:o.dst=some d) (hc:chk ops ab i=true) (hn:Nat.blt d n=true)
  (hy: ∀a,Sat n L a->YieldsIf P ops (λw=>Hp B w0 w R) o v a) (h:WD P n B w0 ops K al (ab.setIfInBounds i true) ((d,v)::L) R):WD P n B w0 ops K (al+1) ab L R:=by
 intro a w Q hs hp ft hq;simp only[chk,pu] at hc;obtain⟨⟨⟨h1,h2⟩,h3⟩,h4⟩:=hc;refine AZ hi (Ae h1) (λc a w hh=>(ft c _ w hh).elim) al _ ab a w h4 (Bw hi h2) (by simpa using h3) (hy a hs) hp ?_;rw[hd];exact h _ w Q (hs.put hn v) hp ft hq
theorem bQb {d:Nat} {v:Value} {al:Nat} {ab:AI} (i:Nat) (hi:ops[i]? =some {dst:=some d,op:=op,type:=ty,pos:=pos,after:=nc,guard:=none}) (hc:chk ops ab i=true) (hn:Nat.blt d n=true)
  (hy:Yl P n B w0 op ty L R v) (h:WD P n B w0 ops K al (ab.setIfInBounds i true) ((d,v)::L) R):WD P n B w0 ops K (al+1) ab L R:=
 JC hi rfl hc hn (λa hs=> .inl ⟨rfl,λw hw=>hy a w _ rfl rfl hs hw⟩) h
theorem bKz {d j e:Nat} {want:Bool} {v:Value} {al:Nat} {ab:AI} (i:Nat) (hi:ops[i]? =some {dst:=some d,op:=op,type:=ty,pos:=pos,after:=nc,guard:=some (j,want)}) (hc:chk ops ab i=true) (hn:Nat.blt d n=true)
  (hj:(ops[j]?).bind (·.dst)=some e) (hb:lk L e=some (.bool want)) (hy:Yl P n B w0 op ty L R v) (h:WD P n B w0 ops K al (ab.setIfInBounds i true) ((d,v)::L) R):WD P n B w0 ops K (al+1) ab L R:=
 JC hi rfl hc hn (λa hs=> .inl ⟨by simp[Region.wanted,lT hs hj hb],λw hw=>hy a w _ rfl rfl hs hw⟩) h
theorem bLa {d j e:Nat} {want b:Bool} {al:Nat} {ab:AI} (i:Nat) (hi:ops[i]? =some {dst:=some d,op:=op,type:=ty,pos:=pos,after:=nc,guard:=some (j,want)}) (hc:chk ops ab i=true) (hn:Nat.blt d n=true)
  (hj:(ops[j]?).bind (·.dst)=some e) (hb:lk L e=some (.bool b)) (fd:(b==want)=false) (h:WD P n B w0 ops K al (ab.setIfInBounds i true) ((d,undef)::L) R):WD P n B w0 ops K (al+1) ab L R:=
 JC hi rfl hc hn (λa hs=> .inr ⟨by simp only[Region.wanted,lT hs hj hb];cases b<;>cases want<;>simp_all,rfl⟩) h
theorem eO {d j e:Nat} {want:Bool} {al:Nat} {ab:AI} (i:Nat) (hi:ops[i]? =some {dst:=some d,op:=op,type:=ty,pos:=pos,after:=nc,guard:=some (j,want)}) (hc:chk ops ab i=true) (hn:Nat.blt d n=true)
  (hj:(ops[j]?).bind (·.dst)=some e) (hb:lk L e=some undef) (h:WD P n B w0 ops K al (ab.setIfInBounds i true) ((d,undef)::L) R):WD P n B w0 ops K (al+1) ab L R:=
 JC hi rfl hc hn (λa hs=> .inr ⟨by simp[Region.wanted,yM hs hj hb],rfl⟩) h
theorem bHi {al:Nat} {ab:AI} (hr:Region.ready .any ops ab=[]) (h:K L R):WD P n B w0 ops K al ab L R:=by
 intro a w Q hs hp ft hq;cases al with
 |zero=>exact⟨hr,hq _ _ L R hs hp h⟩
 |succ al=>exact⟨λ_=>hq _ _ L R hs hp h,by rw[hr];simp⟩
theorem aEh {i:Nat} {o:Oper} {Post:Value->List Row->Prop} {al:Nat} {ab:AI} (hi:ops[i]? =some o) (hr:Region.ready .any ops ab=[i]) (hg: ∀a,Sat n L a->Region.wanted o (yielded ops a.tmps)=true) (ha:Ac P n B w0 o.op o.type L R Post)
  (hn: ∀v a,Sat n L a->Sat n (match o.dst with|some d=>(d,v)::L|none=>L) (a.put o.dst v))
  (h: ∀v R',Post v R'->(OX ops ab i=true\/ ∀w,Hp B w0 w R'->Hp B w0 w R)/\WD P n B w0 ops K al (ab.setIfInBounds i true) (match o.dst with|some d=>(d,v)::L|none=>L) R'):WD P n B w0 ops K (al+1) ab L R:=by
 intro a w Q hs hp ft hq;refine⟨λh0=>absurd (hr▸h0) cD,λj hj=> ?_⟩;rw[hr] at hj;obtain rfl:=ib.1 hj;unfold wpOp;simp only[hi,hg a hs,Fz];refine .inl (ha a w o _ Q rfl rfl hs hp λv w' R' cm hv=> ?_);obtain⟨h1,h2⟩:=h v R' hv;exact⟨λw=>Hp B w0 w R',cm,h1,h2 _ w' Q (hn v a hs) cm ft hq⟩
theorem bQd {d:Nat} {Post:Value->List Row->Prop} {al:Nat} {ab:AI} (i:Nat) (hi:ops[i]? =some {dst:=some d,op:=op,type:=ty,pos:=pos,after:=nc,guard:=none}) (hr:Region.ready .any ops ab=[i]) (hn:Nat.blt d n=true) (ha:Ac P n B w0 op ty L R Post)
  (h: ∀v R',Post v R'->(OX ops ab i=true\/ ∀w,Hp B w0 w R'->Hp B w0 w R)/\WD P n B w0 ops K al (ab.setIfInBounds i true) ((d,v)::L) R'):WD P n B w0 ops K (al+1) ab L R:=
 aEh hi hr (λ_ _=>rfl) ha (λv _ hs=>hs.put hn v) h
theorem GN {d j e:Nat} {want:Bool} {Post:Value->List Row->Prop} {al:Nat} {ab:AI} (i:Nat) (hi:ops[i]? =some {dst:=some d,op:=op,type:=ty,pos:=pos,after:=nc,guard:=some (j,want)}) (hr:Region.ready .any ops ab=[i]) (hn:Nat.blt d n=true)
  (hj:(ops[j]?).bind (·.dst)=some e) (hb:lk L e=some (.bool want)) (ha:Ac P n B w0 op ty L R Post)
  (h: ∀v R',Post v R'->(OX ops ab i=true\/ ∀w,Hp B w0 w R'->Hp B w0 w R)/\WD P n B w0 ops K al (ab.setIfInBounds i true) ((d,v)::L) R'):WD P n B w0 ops K (al+1) ab L R:=
 aEh hi hr (λa hs=>by simp[Region.wanted,lT hs hj hb]) ha (λv _ hs=>hs.put hn v) h
theorem oU {Post:Value->List Row->Prop} {al:Nat} {ab:AI} (i:Nat) (hi:ops[i]? =some {dst:=none,op:=op,type:=ty,pos:=pos,after:=nc,guard:=none}) (hr:Region.ready .any ops ab=[i]) (ha:Ac P n B w0 op ty L R Post)
  (h: ∀v R',Post v R'->(OX ops ab i=true\/ ∀w,Hp B w0 w R'->Hp B w0 w R)/\WD P n B w0 ops K al (ab.setIfInBounds i true) L R'):WD P n B w0 ops K (al+1) ab L R:=
 aEh hi hr (λ_ _=>rfl) ha (λ_ _ hs=>hs) h
theorem iL {al:Nat} {ab:AI} (d:Nat) {p:Prop} [Decidable p] (hb:lk L d=some (.bool (decide p))) (ht:p->WD P n B w0 ops K al ab ((d, .bool true)::L) R) (hf: ¬p->WD P n B w0 ops K al ab ((d, .bool false)::L) R):WD P n B w0 ops K al ab L R:=by
 intro a w Q hs hp hq;by_cases h:p
 ·exact ht h a w Q (hs.sub (qD (by rw[hb,mh h]))) hp hq
 ·exact hf h a w Q (hs.sub (qD (by rw[hb,mr h]))) hp hq
theorem iF {al:Nat} {ab:AI} {d:Nat} {u v:Value} (hu:u=v) (h:WD P n B w0 ops K al ab ((d,v)::L) R):WD P n B w0 ops K al ab ((d,u)::L) R:=by
 subst hu;exact h
theorem BA {al:Nat} {ab:AI} {R1:List Row} (hR:R=R1) (h:WD P n B w0 ops K al ab L R1):WD P n B w0 ops K al ab L R:=by
 subst hR;exact h
end
end Go.Eng
namespace Go.Eng
open Go Go.RowKit
section
variable {P:Program} {n:Nd} {B:Nat} {w0:World}
theorem fM {σ0:Type} {c:Code} {Q:fC} {L:Env} {R:List Row} (Lx:σ0->Env) (Rx:σ0->List Row) (J:σ0->Prop) (μ:σ0->Nat)
  (h0: ∃x0,J x0/\Sub (Lx x0) L/\ ∀w,Hp B w0 w R->Hp B w0 w (Rx x0))
  (round: ∀x0,J x0->W P n B w0 c {Q with nrm:=λL' R'=> ∃y0,J y0/\μ y0<μ x0/\Sub (Lx y0) L'/\ ∀w,Hp B w0 w R'->Hp B w0 w (Rx y0)} (Lx x0) (Rx x0)):W P n B w0 (.loop c) Q L R:=by
 obtain⟨x0,h1,h2,h3⟩:=h0;refine pM (σ:=σ0) (λp=>Lx p) (λp=>Rx p) (λp=>J p) (λp=>μ p) ⟨x0,h1,h2,h3⟩ λp hp=>iG (round p hp) ?_ (λ_ _ h=>h) (λ_ _ _ h=>h);rintro L' R' ⟨y0,g1,g2,g3,g4⟩;exact⟨y0,⟨g1,g2⟩,g3,g4⟩
theorem dM {σ0 σ1:Type} {c:Code} {Q:fC} {L:Env} {R:List Row} (Lx:σ0->σ1->Env) (Rx:σ0->σ1->List Row) (J:σ0->σ1->Prop) (μ:σ0->σ1->Nat)
  (h0: ∃x0 x1,J x0 x1/\Sub (Lx x0 x1) L/\ ∀w,Hp B w0 w R->Hp B w0 w (Rx x0 x1))
  (round: ∀x0 x1,J x0 x1->W P n B w0 c {Q with nrm:=λL' R'=> ∃y0 y1,J y0 y1/\μ y0 y1<μ x0 x1/\Sub (Lx y0 y1) L'/\ ∀w,Hp B w0 w R'->Hp B w0 w (Rx y0 y1)} (Lx x0 x1) (Rx x0 x1)):W P n B w0 (.loop c) Q L R:=by
 obtain⟨x0,x1,h1,h2,h3⟩:=h0;refine pM (σ:=σ0 × σ1) (λp=>Lx p.1 p.2) (λp=>Rx p.1 p.2) (λp=>J p.1 p.2) (λp=>μ p.1 p.2) ⟨(x0,x1),h1,h2,h3⟩ λp hp=>iG (round p.1 p.2 hp) ?_ (λ_ _ h=>h) (λ_ _ _ h=>h);rintro L' R' ⟨y0,y1,g1,g2,g3,g4⟩;exact⟨(y0,y1),⟨g1,g2⟩,g3,g4⟩
theorem fA {σ0 σ1 σ2:Type} {c:Code} {Q:fC} {L:Env} {R:List Row} (Lx:σ0->σ1->σ2->Env) (Rx:σ0->σ1->σ2->List Row) (J:σ0->σ1->σ2->Prop) (μ:σ0->σ1->σ2->Nat)
  (h0: ∃x0 x1 x2,J x0 x1 x2/\Sub (Lx x0 x1 x2) L/\ ∀w,Hp B w0 w R->Hp B w0 w (Rx x0 x1 x2))
  (round: ∀x0 x1 x2,J x0 x1 x2->W P n B w0 c {Q with nrm:=λL' R'=> ∃y0 y1 y2,J y0 y1 y2/\μ y0 y1 y2<μ x0 x1 x2/\Sub (Lx y0 y1 y2) L'/\ ∀w,Hp B w0 w R'->Hp B w0 w (Rx y0 y1 y2)} (Lx x0 x1 x2) (Rx x0 x1 x2)):W P n B w0 (.loop c) Q L R:=by
 obtain⟨x0,x1,x2,h1,h2,h3⟩:=h0;refine pM (σ:=σ0 × σ1 × σ2) (λp=>Lx p.1 p.2.1 p.2.2) (λp=>Rx p.1 p.2.1 p.2.2) (λp=>J p.1 p.2.1 p.2.2) (λp=>μ p.1 p.2.1 p.2.2) ⟨(x0,x1,x2),h1,h2,h3⟩ λp hp=>iG (round p.1 p.2.1 p.2.2 hp) ?_ (λ_ _ h=>h) (λ_ _ _ h=>h);rintro L' R' ⟨y0,y1,y2,g1,g2,g3,g4⟩;exact⟨(y0,y1,y2),⟨g1,g2⟩,g3,g4⟩
theorem JD {σ0 σ1 σ2 σ3:Type} {c:Code} {Q:fC} {L:Env} {R:List Row} (Lx:σ0->σ1->σ2->σ3->Env) (Rx:σ0->σ1->σ2->σ3->List Row) (J:σ0->σ1->σ2->σ3->Prop) (μ:σ0->σ1->σ2->σ3->Nat)
  (h0: ∃x0 x1 x2 x3,J x0 x1 x2 x3/\Sub (Lx x0 x1 x2 x3) L/\ ∀w,Hp B w0 w R->Hp B w0 w (Rx x0 x1 x2 x3))
  (round: ∀x0 x1 x2 x3,J x0 x1 x2 x3->W P n B w0 c {Q with nrm:=λL' R'=> ∃y0 y1 y2 y3,J y0 y1 y2 y3/\μ y0 y1 y2 y3<μ x0 x1 x2 x3/\Sub (Lx y0 y1 y2 y3) L'/\ ∀w,Hp B w0 w R'->Hp B w0 w (Rx y0 y1 y2 y3)} (Lx x0 x1 x2 x3) (Rx x0 x1 x2 x3)):W P n B w0 (.loop c) Q L R:=by
 obtain⟨x0,x1,x2,x3,h1,h2,h3⟩:=h0;refine pM (σ:=σ0 × σ1 × σ2 × σ3) (λp=>Lx p.1 p.2.1 p.2.2.1 p.2.2.2) (λp=>Rx p.1 p.2.1 p.2.2.1 p.2.2.2) (λp=>J p.1 p.2.1 p.2.2.1 p.2.2.2) (λp=>μ p.1 p.2.1 p.2.2.1 p.2.2.2) ⟨(x0,x1,x2,x3),h1,h2,h3⟩ λp hp=>iG (round p.1 p.2.1 p.2.2.1 p.2.2.2 hp) ?_ (λ_ _ h=>h) (λ_ _ _ h=>h);rintro L' R' ⟨y0,y1,y2,y3,g1,g2,g3,g4⟩;exact⟨(y0,y1,y2,y3),⟨g1,g2⟩,g3,g4⟩
theorem fK {σ0 σ1 σ2 σ3 σ4:Type} {c:Code} {Q:fC} {L:Env} {R:List Row} (Lx:σ0->σ1->σ2->σ3->σ4->Env) (Rx:σ0->σ1->σ2->σ3->σ4->List Row) (J:σ0->σ1->σ2->σ3->σ4->Prop) (μ:σ0->σ1->σ2->σ3->σ4->Nat)
  (h0: ∃x0 x1 x2 x3 x4,J x0 x1 x2 x3 x4/\Sub (Lx x0 x1 x2 x3 x4) L/\ ∀w,Hp B w0 w R->Hp B w0 w (Rx x0 x1 x2 x3 x4))
  (round: ∀x0 x1 x2 x3 x4,J x0 x1 x2 x3 x4->W P n B w0 c {Q with nrm:=λL' R'=> ∃y0 y1 y2 y3 y4,J y0 y1 y2 y3 y4/\μ y0 y1 y2 y3 y4<μ x0 x1 x2 x3 x4/\Sub (Lx y0 y1 y2 y3 y4) L'/\ ∀w,Hp B w0 w R'->Hp B w0 w (Rx y0 y1 y2 y3 y4)} (Lx x0 x1 x2 x3 x4) (Rx x0 x1 x2 x3 x4)):W P n B w0 (.loop c) Q L R:=by
 obtain⟨x0,x1,x2,x3,x4,h1,h2,h3⟩:=h0;refine pM (σ:=σ0 × σ1 × σ2 × σ3 × σ4) (λp=>Lx p.1 p.2.1 p.2.2.1 p.2.2.2.1 p.2.2.2.2) (λp=>Rx p.1 p.2.1 p.2.2.1 p.2.2.2.1 p.2.2.2.2) (λp=>J p.1 p.2.1 p.2.2.1 p.2.2.2.1 p.2.2.2.2) (λp=>μ p.1 p.2.1 p.2.2.1 p.2.2.2.1 p.2.2.2.2) ⟨(x0,x1,x2,x3,x4),h1,h2,h3⟩ λp hp=>iG (round p.1 p.2.1 p.2.2.1 p.2.2.2.1 p.2.2.2.2 hp) ?_ (λ_ _ h=>h) (λ_ _ _ h=>h);rintro L' R' ⟨y0,y1,y2,y3,y4,g1,g2,g3,g4⟩;exact⟨(y0,y1,y2,y3,y4),⟨g1,g2⟩,g3,g4⟩
theorem mU {σ0 σ1 σ2 σ3 σ4 σ5:Type} {c:Code} {Q:fC} {L:Env} {R:List Row} (Lx:σ0->σ1->σ2->σ3->σ4->σ5->Env) (Rx:σ0->σ1->σ2->σ3->σ4->σ5->List Row) (J:σ0->σ1->σ2->σ3->σ4->σ5->Prop) (μ:σ0->σ1->σ2->σ3->σ4->σ5->Nat)
  (h0: ∃x0 x1 x2 x3 x4 x5,J x0 x1 x2 x3 x4 x5/\Sub (Lx x0 x1 x2 x3 x4 x5) L/\ ∀w,Hp B w0 w R->Hp B w0 w (Rx x0 x1 x2 x3 x4 x5))
  (round: ∀x0 x1 x2 x3 x4 x5,J x0 x1 x2 x3 x4 x5->W P n B w0 c {Q with nrm:=λL' R'=> ∃y0 y1 y2 y3 y4 y5,J y0 y1 y2 y3 y4 y5/\μ y0 y1 y2 y3 y4 y5<μ x0 x1 x2 x3 x4 x5/\Sub (Lx y0 y1 y2 y3 y4 y5) L'/\ ∀w,Hp B w0 w R'->Hp B w0 w (Rx y0 y1 y2 y3 y4 y5)} (Lx x0 x1 x2 x3 x4 x5) (Rx x0 x1 x2 x3 x4 x5)):W P n B w0 (.loop c) Q L R:=by
 obtain⟨x0,x1,x2,x3,x4,x5,h1,h2,h3⟩:=h0;refine pM (σ:=σ0 × σ1 × σ2 × σ3 × σ4 × σ5) (λp=>Lx p.1 p.2.1 p.2.2.1 p.2.2.2.1 p.2.2.2.2.1 p.2.2.2.2.2) (λp=>Rx p.1 p.2.1 p.2.2.1 p.2.2.2.1 p.2.2.2.2.1 p.2.2.2.2.2) (λp=>J p.1 p.2.1 p.2.2.1 p.2.2.2.1 p.2.2.2.2.1 p.2.2.2.2.2) (λp=>μ p.1 p.2.1 p.2.2.1 p.2.2.2.1 p.2.2.2.2.1 p.2.2.2.2.2) ⟨(x0,x1,x2,x3,x4,x5),h1,h2,h3⟩ λp hp=>iG (round p.1 p.2.1 p.2.2.1 p.2.2.2.1 p.2.2.2.2.1 p.2.2.2.2.2 hp) ?_ (λ_ _ h=>h) (λ_ _ _ h=>h);rintro L' R' ⟨y0,y1,y2,y3,y4,y5,g1,g2,g3,g4⟩;exact⟨(y0,y1,y2,y3,y4,y5),⟨g1,g2⟩,g3,g4⟩
theorem UM {σ0 σ1 σ2 σ3 σ4 σ5 σ6:Type} {c:Code} {Q:fC} {L:Env} {R:List Row} (Lx:σ0->σ1->σ2->σ3->σ4->σ5->σ6->Env) (Rx:σ0->σ1->σ2->σ3->σ4->σ5->σ6->List Row) (J:σ0->σ1->σ2->σ3->σ4->σ5->σ6->Prop) (μ:σ0->σ1->σ2->σ3->σ4->σ5->σ6->Nat)
  (h0: ∃x0 x1 x2 x3 x4 x5 x6,J x0 x1 x2 x3 x4 x5 x6/\Sub (Lx x0 x1 x2 x3 x4 x5 x6) L/\ ∀w,Hp B w0 w R->Hp B w0 w (Rx x0 x1 x2 x3 x4 x5 x6))
  (round: ∀x0 x1 x2 x3 x4 x5 x6,J x0 x1 x2 x3 x4 x5 x6->W P n B w0 c {Q with nrm:=λL' R'=> ∃y0 y1 y2 y3 y4 y5 y6,J y0 y1 y2 y3 y4 y5 y6/\μ y0 y1 y2 y3 y4 y5 y6<μ x0 x1 x2 x3 x4 x5 x6/\Sub (Lx y0 y1 y2 y3 y4 y5 y6) L'/\ ∀w,Hp B w0 w R'->Hp B w0 w (Rx y0 y1 y2 y3 y4 y5 y6)} (Lx x0 x1 x2 x3 x4 x5 x6) (Rx x0 x1 x2 x3 x4 x5 x6)):W P n B w0 (.loop c) Q L R:=by
 obtain⟨x0,x1,x2,x3,x4,x5,x6,h1,h2,h3⟩:=h0;refine pM (σ:=σ0 × σ1 × σ2 × σ3 × σ4 × σ5 × σ6) (λp=>Lx p.1 p.2.1 p.2.2.1 p.2.2.2.1 p.2.2.2.2.1 p.2.2.2.2.2.1 p.2.2.2.2.2.2) (λp=>Rx p.1 p.2.1 p.2.2.1 p.2.2.2.1 p.2.2.2.2.1 p.2.2.2.2.2.1 p.2.2.2.2.2.2) (λp=>J p.1 p.2.1 p.2.2.1 p.2.2.2.1 p.2.2.2.2.1 p.2.2.2.2.2.1 p.2.2.2.2.2.2) (λp=>μ p.1 p.2.1 p.2.2.1 p.2.2.2.1 p.2.2.2.2.1 p.2.2.2.2.2.1 p.2.2.2.2.2.2) ⟨(x0,x1,x2,x3,x4,x5,x6),h1,h2,h3⟩ λp hp=>iG (round p.1 p.2.1 p.2.2.1 p.2.2.2.1 p.2.2.2.2.1 p.2.2.2.2.2.1 p.2.2.2.2.2.2 hp) ?_ (λ_ _ h=>h) (λ_ _ _ h=>h);rintro L' R' ⟨y0,y1,y2,y3,y4,y5,y6,g1,g2,g3,g4⟩;exact⟨(y0,y1,y2,y3,y4,y5,y6),⟨g1,g2⟩,g3,g4⟩
theorem lM {x y:Code} {Q:fC} {L:Env} {R:List Row} (L1:Env) (R1:List Row)
  (hx:W P n B w0 x {Q with nrm:=λL' R'=>Sub L1 L'/\ ∀w,Hp B w0 w R'->Hp B w0 w R1} L R) (hy:W P n B w0 y Q L1 R1):W P n B w0 (.seq x y) Q L R:=
 aC (iG hx (λ_ _ ⟨hL,hR⟩=>aIx hL hR hy) (λ_ _ h=>h) (λ_ _ _ h=>h))
theorem bN {Q:fC} {L:Env} {R R1:List Row} (hR: ∀w,Hp B w0 w R->Hp B w0 w R1) (h:Q.ret L R1):W P n B w0 .ret Q L R:=aIx (Sub.refl L) hR (bS h)
def pickT (is:List Nat) (m:Nat) (R:List Row):List Row:=is.filterMap (λi=>R[i]?)++R.drop m
theorem Hp.pickT {B:Nat} {w0 w:World} {R:List Row} (h:Hp B w0 w R) (is:List Nat) (m:Nat) (hn:is.Nodup) (hR:is.map (λi=>(R.take m)[i]?)=(is.filterMap (λi=>R[i]?)).map some):Hp B w0 w (pickT is m R):=by
 rw[<-gu m R] at h;have hp:=kz.1 h.apart;have hF:Hp B w0 w (R.take m):=⟨h.below,h.base,λr hr=>h.own r (gp.2 (.inl hr)),hp.1,h.late⟩;have Vb:=hF.sel is hn hR
 have mem: ∀q∈is.filterMap (λi=>R[i]?),q∈R.take m:=by
  intro q hq;have h1:some q∈(is.filterMap (λi=>R[i]?)).map some:=iy.2 ⟨q,hq,rfl⟩;rw[<-hR] at h1;obtain⟨i,_,hi⟩:=iy.1 h1;exact fw hi
 refine⟨h.below,h.base,λr hr=> ?_,kz.2 ⟨Vb.apart,hp.2.1,λa ha b hb=>hp.2.2 a (mem a ha) b hb⟩,h.late⟩;rcases gp.1 hr with hr|hr
 ·exact Vb.own r hr
 ·exact h.own r (gp.2 (.inr hr))
theorem Ct.pick {P:Program} {B:Nat} {w0:World} {f:FuncId} {args:Array Value} {R:List Row} {Post:Value->List Row->Prop} (is:List Nat) (m:Nat) (hn:is.Nodup) (hR:is.map (λi=>(R.take m)[i]?)=(is.filterMap (λi=>R[i]?)).map some) (h:Ct P f args B w0 (pickT is m R) Post):Ct P f args B w0 R Post:=
 Ct.sub (λ_ hw=>hw.pickT is m hn hR) h
theorem aQ {P:Program} {n:Nd} {B:Nat} {w0:World} {Q:fC} {L:Env} {R:List Row} (is:List Nat) (m:Nat) (hn:is.Nodup) (hR:is.map (λi=>(R.take m)[i]?)=(is.filterMap (λi=>R[i]?)).map some) (h:Q.ret L (pickT is m R)):W P n B w0 .ret Q L R:=
 bN (λ_ hw=>hw.pickT is m hn hR) h
theorem Ct.quiet {f:FuncId} {args:Array Value} {R:List Row} {Q:Value->Prop} (h: ∀w,Hp B w0 w R->Ct P f args w.heap.size w [] (λv _=>Q v)):Ct P f args B w0 R (λv R'=>R'=R/\Q v):=
 λw hw=>(h w hw w (Hp.refl w)).mono λ_ _ ⟨v,_,he,hh,hv⟩=>⟨v,R,he,(hw.join hh).right,rfl,hv⟩
theorem Sub.to {L1 L:Env} {t:Nat} {v u:Value} (h:lk L t=some v) (e:v=u) (hs:Sub L1 L):Sub ((t,u)::L1) L:=e▸Sub.cons h hs
variable {L:Env} {R:List Row} {ty:TypeId}
def aP (l:AH):Prop:= ∀x∈l,0<=x/\x<256
theorem aP.rd {l:AH} (h:aP l) (i:Int):0<=rd l i/\rd l i<256:=by
 unfold Eng.rd;rcases fo i.toNat l.length with h1|h1
 ·rw [ak,av h1];exact h _ (mf h1)
 ·rw [ak,mo h1];simp
theorem aP.take {l:AH} (h:aP l) (k:Nat):aP (l.take k):=λx hx=>h x (mg hx)
theorem aP.drop {l:AH} (h:aP l) (k:Nat):aP (l.drop k):=λx hx=>h x (pq hx)
theorem aP.append {l m:AH} (h:aP l) (h':aP m):aP (l++m):=λx hx=>(gp.1 hx).elim (h x) (h' x)
theorem aP.nil:aP []:=λ_ h=>by cases h
theorem BK {l m:AH} (hl:aP l) (hm:aP m):((strOfNums l).toList==(strOfNums m).toList)=decide (l=m):=by
 have key: ∀l:AH,aP l->((strOfNums l).toList.map λb=>(b.toNat:Int))=l:=by
  intro l hl
  have e:(strOfNums l).toList=l.map λx=>UInt8.ofNat x.toNat:=by
   rw[ByteArray.toList_eq];rfl
  rw[e,zg]
  conv=>rhs;rw[<-List.map_id l]
  refine Ce λx hx=> ?_;obtain⟨h0,h1⟩:=hl x hx;simp only[Function.comp,id];rw[Ci (by simp[UInt8.size];omega)];omega
 by_cases h:l=m
 ·subst h;simp
 ·have:(strOfNums l).toList≠(strOfNums m).toList:=λe=>h (by rw[<-key l hl,<-key m hm,e]);simp[h,this]
theorem tT {x:Operand} {s e d:TypeId} {A:AF} {m c:Nat} {l:AH} (ee:P.underlying s=some (.slice e)) (he:P.underlying e=some (.int .u8)) (hd:P.underlying d=some .string) (hx:ev L x=some (.slice A m c)) (hr:RdC B w0 R A m c 1 (ints .u8 l)):
  Yl P n B w0 (.convert s d x) ty L R (.string (strOfNums l)):=by
 intro a w o ho _ hs hp;have jj:=hr w hp;have hl:=jj.len;rw[cZ,qy] at hl
 have hc:(convert s d (.slice A m c)).run P w= .ok (.string (strOfNums l)) w:=by
  rcases A with _|ad
  ·have h0:l=[]:=by
    cases l with
    |nil=>rfl
    |cons y l'=>obtain⟨_,h,_⟩:=jj.at_ 0 (.int .u8 y) (by simp[ints]);cases h
   subst h0;exact run_convert_bytes_nil w s e ee he m c d hd
  ·have hlc:(loadCells ad m).run P w= .ok (l.map (Value.int .u8)).toArray w:=by
    have:=run_loadCells_list (P:=P) w ad (l.map (Value.int .u8)) (λj v hj=>by
     obtain⟨a',oe,rp⟩:=jj.at_ j v hj;obtain rfl:=jc oe
     exact rp)
    simpa [hl] using this
   rw[run_convert_bytes_string w s d e _ m c ee he hd,run_bytesToString w _ m c l hlc,foldl_push_bytes];simp[strOfNums,ByteArray.empty,ByteArray.emptyWithCapacity];rfl
 simp[execOp,ho,hs.ev hx,hc]
theorem bKw {x y:Operand} {t u:TypeId} {p q:ByteArray} (hx:ev L x=some (.string p)) (hy:ev L y=some (.string q)):Yl P n B w0 (.binOp .eql t x y u) ty L R (.bool (p.toList==q.toList)):=by
 intro a w o ho _ hs _;simp[execOp,ho,binOp,eqGuard,hs.ev hx,hs.ev hy,Op.stringOp]
theorem bKx {x y:Operand} {t u:TypeId} {p q:AH} (hx:ev L x=some (.string (strOfNums p))) (hy:ev L y=some (.string (strOfNums q))) (hp:aP p) (hq:aP q):Yl P n B w0 (.binOp .eql t x y u) ty L R (.bool (decide (p=q))):=by
 have:=bKw (P:=P) (n:=n) (B:=B) (w0:=w0) (R:=R) (ty:=ty) (t:=t) (u:=u) hx hy;rwa[BK hp hq] at this
theorem aRr {x y:Operand} {t u:TypeId} {p q:AH} (hx:ev L x=some (.string (strOfNums p))) (hy:ev L y=some (.string (strOfNums q))) (hp:aP p) (hq:aP q):Yl P n B w0 (.binOp .neq t x y u) ty L R (.bool (decide (p≠q))):=by
 intro a w o ho _ hs _;have h:=BK hp hq;have h2:(!decide (p=q))=decide (p≠q):=cD
 simp only[execOp,ho,binOp,eqGuard,hs.ev hx,hs.ev hy,Op.stringOp,h,h2];simp
theorem aIo {x:Operand} {t e:TypeId} {r:Row} {g:Nat} (i:Nat) (hi:R[i]? =some r) (pk:r.ro=false) (ht:P.underlying t=some (.slice e)) (he:P.underlying e=some (.int .u8)) (hA:r.A=some ⟨g,0,none⟩) (hx:ev L x=some (.slice r.A r.n r.c)):
  Ac P n B w0 (.convert t t x) ty L R (λv R'=>v= .slice r.A r.n r.c/\R'=R.set i {r with ro:=true}):=by
 intro a w o K Q ho _ hs hp hk;have hw:=Row.lies_w (hp.own r (fw hi)) pk;rcases hw.2 with⟨hn,_⟩|⟨g',cap,cur,ee,hb,hg,hnc,tk,lf,w9⟩
 ·rw[hA] at hn;cases hn
 ·rw [hA] at ee;simp only[ku,lv,Aj,Au,Ag] at ee;obtain⟨rfl,rfl⟩:=ee
  have hg':(w.freeze ⟨g,cur.size,none⟩ 1).heap[g]? =some (.cells cur r.e (cur.size,cur.size+1)):=by
   have bc:g<w.heap.size:=(gm.1 hg).1;have hv:w.heap[g]= .cells cur r.e (0,0):=(gm.1 hg).2;simp[World.freeze,bc,Array.getElem_modify,hv]
  have Zl: ∀k,k≠g->(w.freeze ⟨g,cur.size,none⟩ 1).heap[k]? =w.heap[k]? :=by
   intro k hk;simp[World.freeze,vw,Fx hk]
  have hr:(convert t t (.slice r.A r.n r.c)).run P w= .ok (.slice r.A r.n r.c) (w.freeze ⟨g,cur.size,none⟩ 1):=by
   rw[hA];simp only[convert,kg,ni ht,jw,ni he,beq_self_eq_true];simp[markStringish,shape,Sem.run,World.shape?,hg,freeze]
  unfold Oper.wp;simp only[execOp,ho,hs.ev hx,kg,hr,jw,ny,Oper.upon];refine hk _ _ _ ?_ ⟨rfl,rfl⟩;refine hp.upd hi (row:=some g) ⟨by simp[World.freeze],by simp[World.freeze],by simp[World.freeze],by simp[World.freeze],λk _ fd=>Zl k (λe=>fd (by rw[e]))⟩ (by simp[World.freeze]) (λk hk=>⟨_,hA,by simpa using hk⟩) ?_ (λa' oe=> .inl ⟨a',oe,rfl⟩);unfold Row.lies;exact⟨g,cur,_,hA,hb,hg',qx hnc tk,hnc,hw.1,w9⟩
end
end Go.Eng
namespace Go.Eng
open Go Go.RowKit
def upd (l:AH) (i v:Int):AH:=l.set i.toNat v
theorem pF (k:IntKind) (l m:AH):ints k (l++m)=ints k l++ints k m:=by simp[ints]
theorem aWi (k:IntKind) (l:AH) (i v:Int):(ints k l).set i.toNat (.int k v)=ints k (upd l i v):=by simp[ints,upd,List.map_set]
theorem aY (l:AH) (i v:Int):(upd l i v).length=l.length:=by simp[upd]
theorem gG {l:AH} {i j v:Int} (hi:0<=i) (hj:0<=j) (h:i<l.length):rd (upd l i v) j=if j=i then v else rd l j:=by
 unfold rd upd;rw[ak,ak,xx];by_cases e:j=i
 ·subst e;have:j.toNat<l.length:=G
  simp[this]
 ·have: ¬i.toNat=j.toNat:=G
  simp[e,this]
theorem LW {l m:AH} {i:Int} (h0:0<=i) (h:i<l.length):rd (l++m) i=rd l i:=by
 unfold rd;rw[ak,ak,ji G]
theorem QA {l:AH} {x i:Int} (h:i=l.length):rd (l++[x]) i=x:=by
 subst h;simp[rd]
theorem DI (k:IntKind) (l:AH): ∀u∈ints k l,u.oneCell'=true:=by
 intro u hu;obtain⟨x,_,rfl⟩:=iy.1 hu;rfl
section
variable {P:Program} {n:Nd} {B:Nat} {w0:World} {L:Env} {R:List Row} {ty:TypeId}
theorem VL (k:IntKind):RdC B w0 R none 0 0 1 (ints k []):=λ_ _=>⟨rfl,G,G,λj v hv=>by simp[ints] at hv⟩
theorem JM (sz:Nat):RdC B w0 R none 0 0 sz []:=λ_ _=>⟨cD,G,G,λj v hv=>by simp at hv⟩
theorem bD {x y:Operand} {t e:TypeId} {j v:Int} {A:AF} {m c:Nat} {k:IntKind} {l:AH} (i:Nat) (hi:R[i]? =some ⟨e,1,A,m,c,ints k l,false⟩) (gs:(P.info? t).map (·.size)=some 1) (hx:ev L x=some (.pointer (pat A j.toNat))) (hy:ev L y=some (.int k v)) (h0:0<=j:=by omega) (h1:j<m:=by omega):
  Ac P n B w0 (.store t x y) ty L R (λ_ R'=>R'=R.set i ⟨e,1,A,m,c,ints k (upd l j v),false⟩):=by
 intro a w o K Q ho k9 hs hp hk;have ge:=Row.lies_w (hp.own _ (fw hi)) rfl;have jj:=Row.rd (hp.own _ (fw hi));have hl:=jj.len
 obtain⟨g,hA⟩: ∃g,A=some ⟨g,0,none⟩:=by
  rcases ge.2 with⟨_,hn⟩|⟨g,cap,cur,hv,_⟩
  ·simp only at hn;omega
  ·simp only[ku] at hv;exact⟨g,hv.1⟩
 have:=XF (P:=P) (n:=n) (B:=B) (w0:=w0) (ty:=ty) i hi rfl hA gs hx rfl hy rfl rfl (by rw[hl];simp only;omega);simp only[aWi] at this;exact this a w o K Q ho k9 hs hp hk
theorem aS {s x:Operand} {t e:TypeId} {bytes m p c c2:Nat} {A A2:AF} {k:IntKind} {l news:AH} (i:Nat) (hi:R[i]? =some ⟨e,1,A,p,c,ints k l,false⟩) (ht:P.underlying t=some (.slice e)) (dg:(P.info? e).map (λi=>(i.zero,i.size,i.bytes))=some (some (.int k 0),1,bytes)) (o9:Nat.blt 0 bytes=true)
  (hs:ev L s=some (.slice A p c)) (hx:ev L x=some (.slice A2 m c2)) (jj:RdC B w0 R A2 m c2 1 (ints k news)) (mc:(p+m)*bytes<=140737488355328:=by omega):
  Ac P n B w0 (.call {callee:= .builtin .append,args:= #[s,x],argTypes:= #[t,t]}) ty L R (λv R'=> ∃A' c',v= .slice A' (p+m) c'/\R'=R.set i ⟨e,1,A',p+m,c',ints k (l++news),false⟩):=by
 have:=pJ (P:=P) (n:=n) (B:=B) (w0:=w0) (ty:=ty) i hi rfl ht dg rfl rfl o9 hs hx jj (DI k news) mc;simp only[<-pF] at this;exact this
theorem aTv (k:IntKind) (m:Nat) (x:Int):List.replicate m (Value.int k x)=ints k (List.replicate m x):=by simp[ints]
theorem dD {x y:Operand} {t e:TypeId} {k:IntKind} {bytes:Nat} {m:Int} (ht:P.underlying t=some (.slice e)) (dg:(P.info? e).map (λi=>(i.zero,i.size,i.bytes))=some (some (.int k 0),1,bytes))
  (hx:ev L x=some (.int .i64 m)) (hy:ev L y=some (.int .i64 m)) (h0:0<=m:=by omega) (hm:m*bytes<=281474976710656:=by omega) (Kt:m<=9223372036854775807:=by omega):
  Ac P n B w0 (.makeSlice t x y) ty L R (λv R'=> ∃g,v= .slice (some ⟨g,0,none⟩) m.toNat m.toNat/\R'=⟨e,1,some ⟨g,0,none⟩,m.toNat,m.toNat,ints k (List.replicate m.toNat 0),false⟩::R):=by
 have:=aLx (P:=P) (n:=n) (B:=B) (w0:=w0) (L:=L) (R:=R) (ty:=ty) ht dg rfl hx hy h0 hm Kt;simpa only[aTv] using this
theorem Yl.t {op:Op} {p:Prop} [Decidable p] (hy:Yl P n B w0 op ty L R (.bool (decide p))) (h:p):Yl P n B w0 op ty L R (.bool true):=by rwa[mh h] at hy
theorem Yl.f {op:Op} {p:Prop} [Decidable p] (hy:Yl P n B w0 op ty L R (.bool (decide p))) (h: ¬p:=by omega):Yl P n B w0 op ty L R (.bool false):=by rwa[mr h] at hy
theorem Yl.is {op:Op} {v u:Value} (hy:Yl P n B w0 op ty L R v) (h:v=u):Yl P n B w0 op ty L R u:=h▸hy
theorem fH {ops:Array Oper} {l:List Oper} {K:Env->List Row->Prop} (d:Nat) {p:Prop} [Decidable p] (h:lk L d=some (.bool (decide p))) (hp:p) (hn:WR P n B w0 ops l K ((d, .bool true)::L) R):WR P n B w0 ops l K L R:=
 dB (qD (by rw[h,mh hp])) (λ_ h=>h) hn
theorem oL {ops:Array Oper} {l:List Oper} {K:Env->List Row->Prop} (d:Nat) {p:Prop} [Decidable p] (h:lk L d=some (.bool (decide p))) (hp: ¬p) (hn:WR P n B w0 ops l K ((d, .bool false)::L) R):WR P n B w0 ops l K L R:=
 dB (qD (by rw[h,mr hp])) (λ_ h=>h) hn
theorem lF {ops:Array Oper} {l2:List Oper} {Q:Exit->Act->World->Prop}: ∀(l1:List Oper) (a:Act) (w:World),wpList P ops (λe a w=>match e with| .normal=>wpList P ops Q l2 a w|e=>Q e a w) l1 a w->wpList P ops Q (l1++l2) a w
 |[],a,w,h=>h
 | o ::l1,a,w,h=>by
  simp only[jh];unfold wpList at h ⊢;split
  ·rename_i hw;rw[df hw] at h;rcases h with h|⟨h1,h2⟩
   ·left;unfold Oper.wp at h ⊢;generalize (execOp a.eval o).run P w=r at*;cases r with
    | ok n w'=>
     cases n<;>simp only[Oper.upon] at h ⊢ <;>first
      |exact lF l1 _ _ h
      |exact Calls.mono h (λe Ms he=>by cases e<;>first|exact lF l1 _ _ he|exact he)
      |exact Rows.mono h (λ_ _ he=>lF l1 _ _ he)
    |halt x w'=>cases x<;>simp only[Oper.upon] at h ⊢ <;>exact h
   ·exact .inr ⟨h1,h2⟩
  ·rename_i hw;rw[bz hw] at h;exact lF l1 _ _ h
theorem cK {ops:Array Oper} {l:List Oper} {K:Env->List Row->Prop} (k:Nat) (L1:Env) (R1:List Row) (h1:WR P n B w0 ops (l.take k) (λL' R'=>Sub L1 L'/\ ∀w,Hp B w0 w R'->Hp B w0 w R1) L R) (h2:WR P n B w0 ops (l.drop k) K L1 R1):WR P n B w0 ops l K L R:=by
 intro a w Q hs hp hq;rw[<-gu k l];refine lF _ a w (h1 a w _ hs hp λa' w' L' R' ee cm ⟨hL,hR⟩=> ?_);exact h2 a' w' Q (ee.sub hL) (hR w' cm) hq
theorem bQg {p:Prop} [Decidable p] (h:p):Value.bool true=Value.bool (decide p):=by rw[mh h]
theorem bQh {p:Prop} [Decidable p] (h: ¬p):Value.bool false=Value.bool (decide p):=by rw[mr h]
theorem mb {p q:Prop} [Decidable p] [Decidable q] (h:p↔q):Value.bool (decide p)=Value.bool (decide q):=by rw[yj.2 h]
def enu:Nat->AG->List (Nat × Value)
 |_,[]=>[]
 |k,v::vs=>(k,v)::enu (k+1) vs
theorem cells_one {v:Value} (h:v.oneCell'=true):v.cells= #[v]:=by cases v<;>first|rfl|(simp[Value.oneCell'] at h)
theorem aBv: ∀(vs pre post:AG),vs.all (·.oneCell')=true->vs.length=post.length->Instr.fill (λi=>some (i*1,1)) (pre++post).toArray (enu pre.length vs)=some (pre++vs).toArray
 |[],pre,post,_,hl=>by
  have:post=[]:=ek (by simpa using hl.symm);subst this;simp[enu,Instr.fill]
 | v::vs,pre,post,h1,hl=>by
  cases post with
  |nil=>simp at hl
  | cons q post=>
   simp only[Ht,pu] at h1;have hc:=cells_one h1.1;have ih:=aBv vs (pre++[v]) post h1.2 (by simpa using hl);simp only[ah,gq] at ih;simp only[enu,Instr.fill,qy];rw[hc];have hn: ¬((#[v]:Array Value).size≠1\/pre.length+(#[v]:Array Value).size>(pre++q::post).toArray.size):=cD
   simp only[hn,zu,yx,xk]
   have e:((#[v]:Array Value).zipIdx.foldl (λcs x=>cs.setIfInBounds (pre.length+x.2) x.1) (pre++q::post).toArray)=(pre++[v]++post).toArray:=by
    simp
   simp only[qy,gy,jh,je] at ih;simp only[e,gy,jh,je];exact ih
theorem mK {t e:TypeId} {z:Value} {len:Nat} {ps:List (Nat × Operand)} (vals:AG) (ht:P.underlying t=some (.slice e)) (dg:(P.info? e).map (λi=>(i.zero,i.size))=some (some z,1)) (hv:evp L ps=some (enu 0 vals))
  (h1:vals.all (·.oneCell')=true) (hl:vals.length=len) (sg:Nat.ble len 16777216=true):
  Ac P n B w0 (.buildSlice t len ps.toArray) ty L R (λv R'=> ∃g,v= .slice (some ⟨g,0,none⟩) len len/\R'=⟨e,1,some ⟨g,0,none⟩,len,len,vals,false⟩::R):=by
 have hf:=aBv vals [] (((Array.range (len*1)).map ((bif Nat.beq (len*1) 0 then #[] else z.cells)[· %(bif Nat.beq (len*1) 0 then #[] else z.cells).size]!)).toList) h1 (by simp[hl]);simp only[jl,je,Array.toArray_toList] at hf;have:=qA (P:=P) (n:=n) (B:=B) (w0:=w0) (L:=L) (R:=R) (ty:=ty) (len:=len) ht dg hv (by rw[qy];exact sg) sg hf (by simp[hl]);simpa using this
theorem bH {t e:TypeId} {z:Value} {len:Nat} {ps:List (Nat × Operand)} (k:IntKind) (l:AH) (ht:P.underlying t=some (.slice e)) (dg:(P.info? e).map (λi=>(i.zero,i.size))=some (some z,1)) (hv:evp L ps=some (enu 0 (ints k l)))
  (hl:l.length=len) (sg:Nat.ble len 16777216=true):
  Ac P n B w0 (.buildSlice t len ps.toArray) ty L R (λv R'=> ∃g,v= .slice (some ⟨g,0,none⟩) len len/\R'=⟨e,1,some ⟨g,0,none⟩,len,len,ints k l,false⟩::R):=
 mK (ints k l) ht dg hv (by rw[xe];exact DI k l) (by rw[cZ,hl]) sg
theorem Rd.lenI {w:World} {A:AF} {m c:Nat} {k:IntKind} {l:AH} (h:Rd w A m c 1 (ints k l)):m=l.length:=by
 have:=h.len;rw[cZ] at this;omega
end
end Go.Eng
namespace Go.Eng
open Go Go.RowKit
section
variable {P:Program} {n:Nd} {B:Nat} {w0:World} {ops:Array Oper} {l:List Oper} {K:Env->List Row->Prop} {L:Env} {R:List Row} {op:Op} {ty:TypeId} {pos:String} {nc:Array Edge} {d:Nat}
theorem wy {v:Value} (hy:Yl P n B w0 op ty L R v) (h:WR P n B w0 ops l K ((d,v)::L) R) (hn:Nat.blt d n=true:=by exact rfl):WR P n B w0 ops ({dst:=some d,op:=op,type:=ty,pos:=pos,after:=nc,guard:=none}::l) K L R:=UI hn hy h
theorem wa {Post:Value->List Row->Prop} (ha:Ac P n B w0 op ty L R Post) (h: ∀v R',Post v R'->WR P n B w0 ops l K ((d,v)::L) R') (hn:Nat.blt d n=true:=by exact rfl):WR P n B w0 ops ({dst:=some d,op:=op,type:=ty,pos:=pos,after:=nc,guard:=none}::l) K L R:=bPz hn ha h
theorem wm {x:Operand} {v:Value} (hx:ev L x=some v) (h:WR P n B w0 ops l K ((d,v)::L) R) (hn:Nat.blt d n=true:=by exact rfl):WR P n B w0 ops ({dst:=some d,op:= .move x,type:=ty,pos:=pos,after:=nc,guard:=none}::l) K L R:=UI hn (aK hx) h
theorem wg {x:Operand} {v:Value} (hx:ev L x=some v) (h:WR P n B w0 ops l K ((d,v)::L) R) (hn:Nat.blt d n=true:=by exact rfl):WR P n B w0 ops ({dst:=some d,op:= .assign x,type:=ty,pos:=pos,after:=nc,guard:=none}::l) K L R:=UI hn (bC hx) h
theorem wA {x y:Operand} {t u:TypeId} {p q:Int} (hx:ev L x=some (.int .i64 p)) (hy:ev L y=some (.int .i64 q)) (h:WR P n B w0 ops l K ((d, .int .i64 (p+q))::L) R) (hn:Nat.blt d n=true:=by exact rfl) (hb: -9223372036854775808<=p+q/\p+q<=9223372036854775807:=by omega):WR P n B w0 ops ({dst:=some d,op:= .binOp .add t x y u,type:=ty,pos:=pos,after:=nc,guard:=none}::l) K L R:=UI hn (bX hx hy hb) h
theorem wS {x y:Operand} {t u:TypeId} {p q:Int} (hx:ev L x=some (.int .i64 p)) (hy:ev L y=some (.int .i64 q)) (h:WR P n B w0 ops l K ((d, .int .i64 (p-q))::L) R) (hn:Nat.blt d n=true:=by exact rfl) (hb: -9223372036854775808<=p-q/\p-q<=9223372036854775807:=by omega):WR P n B w0 ops ({dst:=some d,op:= .binOp .sub t x y u,type:=ty,pos:=pos,after:=nc,guard:=none}::l) K L R:=UI hn (gZ hx hy hb) h
theorem wL {x y:Operand} {t u:TypeId} {k:IntKind} {p q:Int} (hx:ev L x=some (.int k p)) (hy:ev L y=some (.int k q)) (h:WR P n B w0 ops l K ((d, .bool (decide (p<q)))::L) R) (hn:Nat.blt d n=true:=by exact rfl):WR P n B w0 ops ({dst:=some d,op:= .binOp .lss t x y u,type:=ty,pos:=pos,after:=nc,guard:=none}::l) K L R:=UI hn (eD hx hy) h
theorem wQ {x y:Operand} {t u:TypeId} {k:IntKind} {p q:Int} (hx:ev L x=some (.int k p)) (hy:ev L y=some (.int k q)) (h:WR P n B w0 ops l K ((d, .bool false)::L) R) (hn:Nat.blt d n=true:=by exact rfl) (hb: ¬p=q:=by decide):WR P n B w0 ops ({dst:=some d,op:= .binOp .eql t x y u,type:=ty,pos:=pos,after:=nc,guard:=none}::l) K L R:=UI hn (Yl.f (dR hx hy) hb) h
theorem wR {x y:Operand} {t u:TypeId} {k:IntKind} {p q:Int} (hx:ev L x=some (.int k p)) (hy:ev L y=some (.int k q)) (h:WR P n B w0 ops l K ((d, .bool true)::L) R) (hn:Nat.blt d n=true:=by exact rfl) (hb:p=q:=by decide):WR P n B w0 ops ({dst:=some d,op:= .binOp .eql t x y u,type:=ty,pos:=pos,after:=nc,guard:=none}::l) K L R:=UI hn (Yl.t (dR hx hy) hb) h
theorem wX {i:Nat} {x:Operand} {vs:Array Value} {v:Value} (hx:ev L x=some (.tuple vs)) (hv:vs[i]? =some v) (h:WR P n B w0 ops l K ((d,v)::L) R) (hn:Nat.blt d n=true:=by exact rfl):WR P n B w0 ops ({dst:=some d,op:= .extract x i,type:=ty,pos:=pos,after:=nc,guard:=none}::l) K L R:=UI hn (iE hx hv) h
theorem wD {v:Value} {al:Nat} {ab:AI} (i:Nat) (hi:ops[i]? =some {dst:=some d,op:=op,type:=ty,pos:=pos,after:=nc,guard:=none}) (hy:Yl P n B w0 op ty L R v) (h:WD P n B w0 ops K al (ab.setIfInBounds i true) ((d,v)::L) R) (hc:chk ops ab i=true:=by kernel_rfl) (hn:Nat.blt d n=true:=by exact rfl):WD P n B w0 ops K (al+1) ab L R:=bQb i hi hc hn hy h
theorem wq {id:Nat} {l:List Oper} {y:Code} {Q:fC} (h:WR P n B w0 l.toArray l (λL R=>W P n B w0 y Q L R) L R) (hd:yT n.rd l=true:=by exact rfl):W P n B w0 (.seq (.region id l.toArray false) y) Q L R:=aC (aL h hd)
theorem mbA {p q:Prop} [Decidable p] [Decidable q] (h:p↔q:=by first|omega|exact⟨λh=>⟨cF,h⟩,λh=>h.2⟩|exact .inl cF|exact⟨.inr,λh=>h.resolve_left cF⟩|exact⟨λh=>h.resolve_left cF, .inr⟩|simp[*]):Value.bool (decide p)=Value.bool (decide q):=mb h
theorem mfA {p:Prop} [Decidable p] (h: ¬p:=by first|omega|exact⟨λh=>⟨cF,h⟩,λh=>h.2⟩|exact .inl cF|exact⟨.inr,λh=>h.resolve_left cF⟩|exact⟨λh=>h.resolve_left cF, .inr⟩|simp[*]):Value.bool false=Value.bool (decide p):=bQh h
theorem mtA {p:Prop} [Decidable p] (h:p:=by first|omega|exact⟨λh=>⟨cF,h⟩,λh=>h.2⟩|exact .inl cF|exact⟨.inr,λh=>h.resolve_left cF⟩|exact⟨λh=>h.resolve_left cF, .inr⟩|simp[*]):Value.bool true=Value.bool (decide p):=bQg h
theorem wG {j e:Nat} {want:Bool} {v:Value} {al:Nat} {ab:AI} (i:Nat) (hi:ops[i]? =some {dst:=some d,op:=op,type:=ty,pos:=pos,after:=nc,guard:=some (j,want)}) (hj:(ops[j]?).bind (·.dst)=some e) (hb:lk L e=some (.bool want)) (hy:Yl P n B w0 op ty L R v) (h:WD P n B w0 ops K al (ab.setIfInBounds i true) ((d,v)::L) R) (hc:chk ops ab i=true:=by kernel_rfl) (hn:Nat.blt d n=true:=by exact rfl):WD P n B w0 ops K (al+1) ab L R:=bKz i hi hc hn hj hb hy h
theorem wO {j e:Nat} {want b:Bool} {al:Nat} {ab:AI} (i:Nat) (hi:ops[i]? =some {dst:=some d,op:=op,type:=ty,pos:=pos,after:=nc,guard:=some (j,want)}) (hj:(ops[j]?).bind (·.dst)=some e) (hb:lk L e=some (.bool b)) (h:WD P n B w0 ops K al (ab.setIfInBounds i true) ((d,undef)::L) R) (hc:chk ops ab i=true:=by kernel_rfl) (hn:Nat.blt d n=true:=by exact rfl) (fd:(b==want)=false:=by exact rfl):WD P n B w0 ops K (al+1) ab L R:=bLa i hi hc hn hj hb fd h
theorem wC {Post:Value->List Row->Prop} {al:Nat} {ab:AI} (i:Nat) (hi:ops[i]? =some {dst:=some d,op:=op,type:=ty,pos:=pos,after:=nc,guard:=none}) (ha:Ac P n B w0 op ty L R Post) (h: ∀v R',Post v R'->(OX ops ab i=true\/ ∀w,Hp B w0 w R'->Hp B w0 w R)/\WD P n B w0 ops K al (ab.setIfInBounds i true) ((d,v)::L) R') (hr:Region.ready .any ops ab=[i]:=by kernel_rfl) (hn:Nat.blt d n=true:=by exact rfl):WD P n B w0 ops K (al+1) ab L R:=bQd i hi hr hn ha h
theorem wN {al:Nat} {ab:AI} (h:K L R) (hr:Region.ready .any ops ab=[]:=by kernel_rfl):WD P n B w0 ops K al ab L R:=bHi hr h
theorem wn {x:Operand} {v:Value} (hx:ev L x=some v) (h:K ((d,v)::L) R) (hn:Nat.blt d n=true:=by exact rfl):WR P n B w0 ops ({dst:=some d,op:= .assign x,type:=ty,pos:=pos,after:=nc,guard:=none}::[]) K L R:=wg hx (aA h) hn
theorem sc {L1 L:Env} {t:Nat} {v:Value} (h:lk L t=some v) (hs:Sub L1 L):Sub ((t,v)::L1) L:=Sub.cons h hs
theorem SA {L1 L:Env} (h:Sub L1 L:=by repeat' first|exact Sub.nil|refine sc rfl ?_|refine Sub.to rfl mbA ?_|refine Sub.to rfl mfA ?_|refine Sub.to rfl mtA ?_):Sub L1 L:=h
theorem KP {L1 L:Env} {R1 R:List Row} (h:Sub L1 L:=by repeat' first|exact Sub.nil|refine sc rfl ?_|refine Sub.to rfl mbA ?_|refine Sub.to rfl mfA ?_|refine Sub.to rfl mtA ?_) (e:R=R1:=by exact rfl):Sub L1 L/\ ∀w,Hp B w0 w R->Hp B w0 w R1:=⟨h,λ_ hw=>e▸hw⟩
theorem hiZ: ∀w,Hp B w0 w R->Hp B w0 w R:=λ_ h=>h
theorem hrZ {r:Row}: ∀w,Hp B w0 w (r::R)->Hp B w0 w R:=λ_ h=>h.tail
abbrev CT:= @Ct Go.Proofs.Tryz.prog
abbrev CF (f:FuncId) (a:Array Value) (w:World) (Q:Value->List Row->Prop):Prop:=Ct Go.Proofs.Tryz.prog f a w.heap.size w [] Q
abbrev I (x:Int):Value:= .int .i64 x
abbrev GG (g:Nat):AF:=some ⟨g,0,none⟩
abbrev PG (g:Nat):Value:= .pointer (GG g)
abbrev sl (A:AF) (m c:Nat):Value:= .slice A m c
abbrev bt:Value:= .bool true
abbrev bf:Value:= .bool false
abbrev rc (e s g:Nat) (l:AG):Row:=⟨e,s,some ⟨g,0,none⟩,1,1,l,false⟩
abbrev ri (e:TypeId) (A:AF) (m c:Nat) (l:AH):Row:=⟨e,1,A,m,c,ints .i64 l,false⟩
abbrev ru (e:TypeId) (A:AF) (m c:Nat) (l:AH):Row:=⟨e,1,A,m,c,ints .u8 l,false⟩
end
end Go.Eng
namespace Go.Proofs.YtdbebmmhdefgdaaGreat
open Go Go.Eng
theorem mixed:Tryz.prog.follows .mixedOrders=true:=cA
theorem sz2:(Tryz.prog.info? 2).map (·.size)=some 1:=cA
theorem sz3:(Tryz.prog.info? 3).map (·.size)=some 1:=cA
theorem zb3:(Tryz.prog.info? 3).map (λi=>(i.zero,i.size,i.bytes))=some (some (.int .i64 0),1,8):=cA
theorem zs3:(Tryz.prog.info? 3).map (λi=>(i.zero,i.size))=some (some (.int .i64 0),1):=cA
theorem sz4:(Tryz.prog.info? 4).map (·.size)=some 1:=cA
theorem zb4:(Tryz.prog.info? 4).map (λi=>(i.zero,i.size,i.bytes))=some (some (.bool false),1,1):=cA
theorem sz5:(Tryz.prog.info? 5).map (·.size)=some 1:=cA
theorem zb5:(Tryz.prog.info? 5).map (λi=>(i.zero,i.size,i.bytes))=some (some (.int .u8 0),1,1):=cA
theorem zs5:(Tryz.prog.info? 5).map (λi=>(i.zero,i.size))=some (some (.int .u8 0),1):=cA
theorem bQf:(Tryz.prog.info? 21).map (·.size)=some 1:=cA
theorem dA:(Tryz.prog.info? 22).map (·.size)=some 1:=cA
theorem bAk:(Tryz.prog.info? 22).map (λi=>(i.zero,i.size,i.bytes))=some (some (.slice none 0 0),1,24):=cA
theorem yK:(Tryz.prog.info? 22).map (λi=>(i.zero,i.size))=some (some (.slice none 0 0),1):=cA
theorem bKi:(Tryz.prog.info? 22).map (·.zero)=some (some (.slice none 0 0)):=cA
theorem mM:(Tryz.prog.info? 23).map (·.size)=some 1:=cA
theorem zG:(Tryz.prog.info? 25).map (·.size)=some 2:=cA
theorem bKh:(Tryz.prog.info? 25).map (·.zero)=some (some (.agg #[(.slice none 0 0),(.slice none 0 0)])):=cA
theorem fD:(Tryz.prog.info? 27).map (·.size)=some 4:=cA
theorem bKg:(Tryz.prog.info? 27).map (·.zero)=some (some (.agg #[(.int .i64 0),(.int .i64 0),(.int .i64 0),(.int .i64 0)])):=cA
theorem dO:(Tryz.prog.info? 52).map (·.size)=some 1:=cA
theorem bPy:(Tryz.prog.info? 52).map (λi=>(i.zero,i.size,i.bytes))=some (some (.slice none 0 0),1,24):=cA
theorem bKl:(Tryz.prog.info? 52).map (λi=>(i.zero,i.size))=some (some (.slice none 0 0),1):=cA
theorem bPx:(Tryz.prog.info? 52).map (·.zero)=some (some (.slice none 0 0)):=cA
theorem uY:(Tryz.prog.info? 56).map (·.size)=some 7:=cA
theorem bHn:(Tryz.prog.info? 79).map (·.size)=some 3:=cA
theorem bKe:(Tryz.prog.info? 79).map (·.zero)=some (some (.agg #[(.slice none 0 0),(.slice none 0 0),(.bool false)])):=cA
theorem aMn:(Tryz.prog.info? 84).map (·.size)=some 1:=cA
theorem gX:(Tryz.prog.info? 100).map (·.size)=some 1:=cA
theorem kV:(Tryz.prog.info? 106).map (·.size)=some 2:=cA
theorem bKq:(Tryz.prog.info? 106).map (λi=>(i.zero,i.size,i.bytes))=some (some (.agg #[(.int .i64 0),(.int .i64 0)]),2,16):=cA
theorem bKo:(Tryz.prog.info? 106).map (λi=>(i.zero,i.size))=some (some (.agg #[(.int .i64 0),(.int .i64 0)]),2):=cA
theorem aIr:(Tryz.prog.info? 106).map (·.zero)=some (some (.agg #[(.int .i64 0),(.int .i64 0)])):=cA
theorem dS:(Tryz.prog.info? 112).map (·.size)=some 1:=cA
theorem aSt:(Tryz.prog.info? 117).map (·.size)=some 2:=cA
theorem bKp:(Tryz.prog.info? 117).map (λi=>(i.zero,i.size,i.bytes))=some (some (.agg #[(.slice none 0 0),(.int .i64 0)]),2,32):=cA
theorem bKn:(Tryz.prog.info? 117).map (λi=>(i.zero,i.size))=some (some (.agg #[(.slice none 0 0),(.int .i64 0)]),2):=cA
theorem bKk:(Tryz.prog.info? 117).map (·.zero)=some (some (.agg #[(.slice none 0 0),(.int .i64 0)])):=cA
theorem aSs:(Tryz.prog.info? 123).map (·.size)=some 1:=cA
theorem aSr:(Tryz.prog.info? 135).map (·.size)=some 1:=cA
theorem aSq:(Tryz.prog.info? 136).map (·.size)=some 3:=cA
theorem bKj:(Tryz.prog.info? 139).map (·.zero)=some (some (.agg #[(.slice none 0 0),(.slice none 0 0),(.slice none 0 0)])):=cA
theorem BJ:(Tryz.prog.info? 185).map (·.size)=some 1:=cA
theorem bLe:(Tryz.prog.info? 198).map (·.size)=some 3:=cA
theorem bLd:(Tryz.prog.info? 200).map (·.size)=some 1:=cA
theorem bFl:(Tryz.prog.info? 201).map (·.size)=some 256:=cA
theorem aSp:(Tryz.prog.info? 223).map (·.size)=some 1:=cA
theorem bKm:(Tryz.prog.info? 223).map (λi=>(i.zero,i.size))=some (some (.pointer none),1):=cA
theorem YN:(Tryz.prog.info? 228).map (·.size)=some 1:=cA
theorem kF:(Tryz.prog.info? 230).map (·.size)=some 2:=cA
theorem vD:(Tryz.prog.info? 230).map (λi=>(i.zero,i.size,i.bytes))=some (some (.agg #[(.int .i64 0),(.int .i64 0)]),2,16):=cA
theorem KC:(Tryz.prog.info? 230).map (λi=>(i.zero,i.size))=some (some (.agg #[(.int .i64 0),(.int .i64 0)]),2):=cA
theorem aRn:(Tryz.prog.info? 230).map (·.zero)=some (some (.agg #[(.int .i64 0),(.int .i64 0)])):=cA
theorem RD:(Tryz.prog.info? 248).map (·.size)=some 3:=cA
theorem aSo:(Tryz.prog.info? 269).map (·.size)=some 1:=cA
theorem bLc:(Tryz.prog.info? 350).map (·.size)=some 1:=cA
theorem bKf:(Tryz.prog.info? 350).map (·.zero)=some (some (.pointer none)):=cA
abbrev bOn:=enters Tryz.func16 cA cA
abbrev bOl:=enters Tryz.func17 cA cA
abbrev bRk:=enters Tryz.func18 cA cA
abbrev bRj:=enters Tryz.func19 cA cA
abbrev aXp:=enters Tryz.func23 cA cA
abbrev bNe:=enters Tryz.func24 cA cA
abbrev bRi:=enters Tryz.func28 cA cA
abbrev bJo:=enters Tryz.func29 cA cA
abbrev bJn:=enters qz cA cA
abbrev bMg:=enters rz cA cA
abbrev bJm:=enters Tryz.func32 cA cA
abbrev bLy:=enters Tryz.func33 cA cA
abbrev bRh:=enters Tryz.func34 cA cA
abbrev bRg:=enters Tryz.func35 cA cA
abbrev bLu:=enters Ha cA cA
abbrev QH:=enters Tryz.func37 cA cA
abbrev QG:=enters Tryz.func38 cA cA
abbrev bRf:=enters Tryz.func39 cA cA
abbrev bRe:=enters Tryz.func40 cA cA
abbrev bRd:=enters Js cA cA
abbrev bLs:=enters Tryz.func42 cA cA
abbrev aXi:=enters Tryz.func43 cA cA
abbrev bLr:=enters Tryz.func44 cA cA
abbrev bRc:=enters Jt cA cA
abbrev bLq:=enters Tryz.func47 cA cA
abbrev bRb:=enters Tryz.func48 cA cA
abbrev bRa:=enters Tryz.func49 cA cA
abbrev bQz:=enters Tryz.func50 cA cA
abbrev bQy:=enters Tryz.func51 cA cA
abbrev aCe:=enters Tryz.func57 cA cA
abbrev bJl:=enters Ju cA cA
abbrev bEd:=enters Tryz.func59 cA cA
abbrev bLp:=enters Tryz.func60 cA cA
abbrev bJk:=enters Jv cA cA
abbrev QF:=enters Da cA cA
abbrev bJj:=enters Jw cA cA
abbrev WQ:=enters Jy cA cA
abbrev bQx:=enters Tryz.func65 cA cA
abbrev bJi:=enters Jz cA cA
abbrev bJh:=enters Tryz.func68 cA cA
abbrev bQw:=enters Tryz.func69 cA cA
abbrev bQv:=enters Tryz.func70 cA cA
abbrev bQu:=enters Tryz.func71 cA cA
abbrev bQt:=enters Tryz.func72 cA cA
abbrev bQs:=enters Tryz.func73 cA cA
abbrev bJg:=enters Ka cA cA
abbrev bEc:=enters Tryz.func75 cA cA
abbrev bJf:=enters Tryz.func76 cA cA
abbrev aQb:=enters Tryz.func77 cA cA
abbrev aQa:=enters Tryz.func78 cA cA
abbrev bQr:=enters Tryz.func79 cA cA
abbrev bJe:=enters Tryz.func81 cA cA
abbrev bLo:=enters Tryz.func82 cA cA
abbrev bLn:=enters Tryz.func83 cA cA
abbrev bEb:=enters Hd cA cA
abbrev bLm:=enters Tryz.func85 cA cA
abbrev bQq:=enters Tryz.func86 cA cA
abbrev aPz:=enters Tryz.func87 cA cA
abbrev bQp:=enters Tryz.func88 cA cA
abbrev bQo:=enters Tryz.func89 cA cA
abbrev aPy:=enters Tryz.func90 cA cA
abbrev bQn:=enters Kb cA cA
abbrev bQm:=enters Tryz.func92 cA cA
abbrev bLl:=enters Tryz.func93 cA cA
abbrev bLk:=enters Tryz.func96 cA cA
abbrev bPo:=enters Tryz.func103 cA cA
abbrev bGz:=enters Tryz.func104 cA cA
abbrev bGy:=enters Tryz.func105 cA cA
abbrev bPn:=enters Tryz.func106 cA cA
abbrev bGx:=enters Tryz.func107 cA cA
abbrev aCk:=enters Tryz.func108 cA cA
abbrev bGw:=enters Tryz.func109 cA cA
abbrev bGv:=enters Tryz.func110 cA cA
abbrev bGu:=enters Tryz.func111 cA cA
abbrev aLe:=enters Tryz.func112 cA cA
abbrev bGt:=enters Tryz.func113 cA cA
abbrev bPm:=enters Tryz.func114 cA cA
abbrev bPl:=enters Tryz.func115 cA cA
abbrev bPk:=enters Tryz.func116 cA cA
abbrev bPj:=enters Tryz.func117 cA cA
abbrev bPi:=enters Tryz.func118 cA cA
abbrev bGs:=enters Tryz.func119 cA cA
abbrev bPh:=enters Tryz.func120 cA cA
abbrev aCj:=enters Tryz.func121 cA cA
abbrev bGr:=enters Tryz.func122 cA cA
abbrev bGq:=enters Tryz.func124 cA cA
abbrev bGp:=enters Tryz.func126 cA cA
abbrev bGo:=enters Tryz.func127 cA cA
abbrev bPg:=enters Tryz.func128 cA cA
abbrev bPf:=enters Tryz.func129 cA cA
abbrev nK:=enters Iu cA cA
abbrev TL:=enters Tryz.func131 cA cA
abbrev aYd:=enters Tryz.func132 cA cA
abbrev NT:=enters Tryz.func133 cA cA
abbrev TK:=enters Iw cA cA
abbrev bPe:=enters Tryz.func135 cA cA
abbrev bPd:=enters Tryz.func136 cA cA
abbrev bPc:=enters Tryz.func139 cA cA
abbrev bPb:=enters Tryz.func140 cA cA
abbrev bPa:=enters Tryz.func141 cA cA
abbrev bOz:=enters Tryz.func142 cA cA
abbrev bOy:=enters Tryz.func143 cA cA
abbrev bOx:=enters Tryz.func144 cA cA
abbrev bOw:=enters Tryz.func145 cA cA
abbrev bGn:=enters Tryz.func146 cA cA
abbrev bOv:=enters Tryz.func147 cA cA
abbrev bOu:=enters Tryz.func148 cA cA
abbrev aYc:=enters Iy cA cA
abbrev NS:=enters Tryz.func150 cA cA
abbrev bOt:=enters Tryz.func151 cA cA
abbrev bOs:=enters Tryz.func152 cA cA
abbrev bOr:=enters Tryz.func153 cA cA
abbrev bOq:=enters Tryz.func154 cA cA
abbrev bOp:=enters Tryz.func155 cA cA
abbrev aLd:=enters Tryz.func156 cA cA
abbrev bOo:=enters Tryz.func157 cA cA
abbrev aYb:=enters Iz cA cA
abbrev aYa:=enters Ja cA cA
abbrev aXz:=enters Tryz.func160 cA cA
abbrev aXy:=enters Jb cA cA
abbrev bOm:=enters Tryz.func165 cA cA
abbrev aXx:=enters Jc cA cA
abbrev aLc:=enters Tryz.func168 cA cA
abbrev aXw:=enters Tryz.func170 cA cA
abbrev aXv:=enters Tryz.func172 cA cA
abbrev bOk:=enters Tryz.func178 cA cA
abbrev bOj:=enters Tryz.func179 cA cA
abbrev bOi:=enters Tryz.func181 cA cA
abbrev bOh:=enters Tryz.func182 cA cA
abbrev bOg:=enters Tryz.func183 cA cA
abbrev bOf:=enters Tryz.func184 cA cA
abbrev bOe:=enters Tryz.func185 cA cA
abbrev bGm:=enters Tryz.func186 cA cA
abbrev bOd:=enters Tryz.func187 cA cA
abbrev bOc:=enters Tryz.func188 cA cA
abbrev bOb:=enters Tryz.func189 cA cA
abbrev bOa:=enters Tryz.func190 cA cA
abbrev bGl:=enters Jd cA cA
abbrev aXu:=enters Tryz.func197 cA cA
abbrev aXt:=enters Tryz.func200 cA cA
abbrev bGk:=enters Tryz.func201 cA cA
abbrev bGj:=enters Tryz.func202 cA cA
abbrev bGi:=enters Tryz.func203 cA cA
abbrev bNz:=enters Tryz.func204 cA cA
abbrev aXs:=enters Tryz.func205 cA cA
abbrev aXr:=enters Tryz.func206 cA cA
abbrev bNy:=enters Tryz.func209 cA cA
abbrev bNx:=enters Tryz.func210 cA cA
abbrev bNw:=enters Tryz.func211 cA cA
abbrev bNv:=enters Tryz.func212 cA cA
abbrev aXq:=enters Tryz.func213 cA cA
abbrev bNu:=enters Tryz.func214 cA cA
abbrev bNt:=enters Tryz.func215 cA cA
abbrev bNs:=enters Tryz.func216 cA cA
abbrev bNr:=enters Tryz.func217 cA cA
abbrev bNq:=enters Tryz.func218 cA cA
abbrev bNp:=enters Tryz.func219 cA cA
abbrev bNo:=enters Tryz.func220 cA cA
abbrev bNn:=enters Tryz.func221 cA cA
abbrev bGh:=enters Tryz.func223 cA cA
abbrev bGg:=enters Tryz.func224 cA cA
abbrev bNm:=enters Tryz.func225 cA cA
abbrev bNl:=enters Tryz.func226 cA cA
abbrev bNk:=enters Tryz.func227 cA cA
abbrev bNj:=enters Tryz.func228 cA cA
abbrev bNi:=enters Tryz.func229 cA cA
abbrev aXo:=enters Tryz.func231 cA cA
abbrev aXn:=enters Tryz.func232 cA cA
abbrev bNh:=enters Tryz.func233 cA cA
abbrev bNg:=enters Tryz.func237 cA cA
abbrev bNf:=enters Tryz.func238 cA cA
abbrev NR:=enters Tryz.func239 cA cA
abbrev bNd:=enters Tryz.func240 cA cA
abbrev bGf:=enters Tryz.func241 cA cA
abbrev bNc:=enters Tryz.func242 cA cA
abbrev bNb:=enters Tryz.func258 cA cA
abbrev aXm:=enters Tryz.func259 cA cA
abbrev bNa:=enters Tryz.func260 cA cA
abbrev bMz:=enters Tryz.func261 cA cA
abbrev bMy:=enters Tryz.func262 cA cA
abbrev bMx:=enters Tryz.func263 cA cA
abbrev aCi:=enters Tryz.func264 cA cA
abbrev bGe:=enters Tryz.func265 cA cA
abbrev bGd:=enters Tryz.func266 cA cA
abbrev bMw:=enters Tryz.func267 cA cA
abbrev bMv:=enters Tryz.func268 cA cA
abbrev bMu:=enters Tryz.func269 cA cA
abbrev bMt:=enters Tryz.func270 cA cA
abbrev bMs:=enters Tryz.func271 cA cA
abbrev bMr:=enters Tryz.func272 cA cA
abbrev bMq:=enters Tryz.func273 cA cA
abbrev bMp:=enters Tryz.func274 cA cA
abbrev bMo:=enters Tryz.func276 cA cA
abbrev bMn:=enters Tryz.func277 cA cA
abbrev aLb:=enters Tryz.func278 cA cA
abbrev aCh:=enters Tryz.func279 cA cA
abbrev aLa:=enters Tryz.func280 cA cA
abbrev bGc:=enters Tryz.func290 cA cA
abbrev bGb:=enters Tryz.func291 cA cA
abbrev bMm:=enters Tryz.func292 cA cA
abbrev TJ:=enters Tryz.func293 cA cA
abbrev bMl:=enters Tryz.func294 cA cA
abbrev bGa:=enters Tryz.func295 cA cA
abbrev bMk:=enters Tryz.func296 cA cA
abbrev bMj:=enters Tryz.func297 cA cA
abbrev bMi:=enters Tryz.func298 cA cA
abbrev bMh:=enters Tryz.func299 cA cA
abbrev aXl:=enters Tryz.func300 cA cA
abbrev aXk:=enters Tryz.func301 cA cA
abbrev aXj:=enters Tryz.func302 cA cA
abbrev bFz:=enters Tryz.func313 cA cA
abbrev bFy:=enters Tryz.func314 cA cA
abbrev bFx:=enters Tryz.func315 cA cA
abbrev bMf:=enters Tryz.func316 cA cA
abbrev bFw:=enters Tryz.func317 cA cA
abbrev bFv:=enters Tryz.func318 cA cA
abbrev bMe:=enters Tryz.func319 cA cA
abbrev bMd:=enters Tryz.func320 cA cA
abbrev bFu:=enters Tryz.func321 cA cA
abbrev bMc:=enters Tryz.func322 cA cA
abbrev bMb:=enters Tryz.func323 cA cA
abbrev aCg:=enters Tryz.func324 cA cA
abbrev bMa:=enters Tryz.func325 cA cA
abbrev bLz:=enters Tryz.func326 cA cA
abbrev aCf:=enters Tryz.func327 cA cA
abbrev bLx:=enters Tryz.func344 cA cA
abbrev bLw:=enters Tryz.func345 cA cA
abbrev bLv:=enters Tryz.func346 cA cA
abbrev bFt:=enters Tryz.func347 cA cA
abbrev bLt:=enters Tryz.func361 cA cA
end Go.Proofs.YtdbebmmhdefgdaaGreat
namespace Go.Pure
open Go.Eng
variable {i k:Int} {u v:AH} {f:Nat}
def iI (a b:Int):Int:=if a<b then -1 else if b<a then 1 else 0
def cmpL:AH->AH->Int
 |[],[]=>0
 |[],_::_=> -1
 |_::_,[]=>1
 |a::s,b::t=>if a<b then -1 else if b<a then 1 else cmpL s t
theorem iX {l:AH} (h0:0<=i) (h:i<l.length):l.drop i.toNat=rd l i::l.drop (i+1).toNat:=by
 have hl:i.toNat<l.length:=G
 have e:(i+1).toNat=i.toNat+1:=G
 rw[e,kv hl];simp[rd,ak,av hl]
theorem qJ (h0:0<=i) (hu:i<u.length) (hv:i<v.length):
  cmpL (u.drop i.toNat) (v.drop i.toNat)=if rd u i<rd v i then -1 else if rd v i<rd u i then 1 else cmpL (u.drop (i+1).toNat) (v.drop (i+1).toNat):=by
 rw[iX h0 hu,iX h0 hv];rfl
theorem tC (h0:0<=i) (hu:i<=u.length) (hv:i<=v.length) (h: ¬(i<u.length/\i<v.length)):
  cmpL (u.drop i.toNat) (v.drop i.toNat)=if (u.length:Int)<v.length then -1 else if (v.length:Int)<u.length then 1 else 0:=by
 have nil: ∀(l:AH) (j:Int),(l.length:Int)<=j->l.drop j.toNat=[]:=λl j h=>ou G;by_cases h1:i<u.length
 ·have h2:i=v.length:=G
  rw[iX h0 h1,nil v i G,bz G,df G];rfl
 ·by_cases h2:i<v.length
  ·rw [iX h0 h2,nil u i G,df G];rfl
  ·rw [nil u i G,nil v i G,bz G,bz G];rfl
def OG (u v:AH):Nat->Int->Int
 |0,_=>0
 |f+1,k=>if rd u (k%u.length)<rd v (k%v.length) then -1 else if rd v (k%v.length)<rd u (k%u.length) then 1 else OG u v f (k+1)
def OH (u v:AH):Int:=
 if (u.length:Int)=0\/(v.length:Int)=0 then iI (min u.length 1) (min v.length 1) else OG u v (u.length+v.length) 0
theorem aQo (a b:Int):iI b a= -iI a b:=by unfold iI;split<;>split<;>omega
theorem TQ (h:rd u (k%u.length)=rd v (k%v.length)):OG u v (f+1) k=OG u v f (k+1):=by
 rw[OG,bz G,bz G]
theorem OE (hf:0<f) (h:iI (rd u (k%u.length)) (rd v (k%v.length))≠0):OG u v f k=iI (rd u (k%u.length)) (rd v (k%v.length)):=by
 obtain⟨f,rfl⟩: ∃g,f=g+1:=⟨f-1,G⟩;unfold OG iI at*;split
 ·rfl
 ·split
  ·rfl
  ·rename_i h1 h2;rw[bz h1,bz h2] at h;exact absurd rfl h
theorem bEk (hf:0<f) (h:iI (rd u (k%u.length)) (rd v (k%v.length))=0):OG u v f k=OG u v (f-1) (k+1):=by
 obtain⟨f,rfl⟩: ∃g,f=g+1:=⟨f-1,G⟩;refine TQ ?_;unfold iI at h;split at h
 ·omega
 ·split at h<;>omega
def rep (w:AH) (k:Int):AH:=(List.replicate k.toNat w).flatten
theorem qP (w:AH) (k:Int):(rep w k).length=k.toNat*w.length:=by
 unfold rep;rw[um,List.map_replicate,List.sum_replicate_nat]
theorem aHl (u v:AH) (h:(u.length:Int)=0\/(v.length:Int)=0):cmpL (u.take (min (u.length:Int) 1).toNat) (v.take (min (v.length:Int) 1).toNat)=iI (min u.length 1) (min v.length 1):=by
 cases u with
 | nil=>cases v with
  |nil=>rfl
  |cons b t=>
   have e:(min (((b::t).length:Nat):Int) 1)=1:=by simp only[dh];omega
   rw[e];rfl
 | cons a s=>cases v with
  |nil=>
   have e:(min (((a::s).length:Nat):Int) 1)=1:=by simp only[dh];omega
   rw[e];rfl
  |cons b t=>simp only[dh] at h;omega
variable {u v:AH} {d N:Nat} {c:Int}
def om (u:AH) (i:Nat):Int:=u.getD (i%u.length) 0
theorem MP (u:AH) (k:Nat):rd u ((k:Int)%u.length)=om u k:=by
 unfold rd om;rw[<-Ao,cz]
theorem HY {i:Nat} (h:i<u.length):om u i=u.getD i 0:=by
 unfold om;rw[lh h]
def Per (W:Nat->Int) (d:Nat):Prop:= ∀i,W (i+d)=W i
theorem rX (u:AH):Per (om u) u.length:=by
 intro i;unfold om;rw[Nat.add_mod_right]
theorem Per.mul {W:Nat->Int} (h:Per W d): ∀k,Per W (d*k)
 |0=>λi=>by rw[Nat.mul_zero,qo]
 |k+1=>λi=>by rw[Nat.mul_succ,<-nk,h,h.mul k]
theorem Per.mod {W:Nat->Int} (h:Per W d) (i:Nat):W (i%d)=W i:=by
 have:=h.mul (i/d) (i%d);rw[Nat.mod_add_div] at this;exact this.symm
theorem Per.gcd {W:Nat->Int} (a b:Nat):Per W a->Per W b->Per W (Nat.gcd a b):=by
 induction a,b using Nat.gcd.induction with
 |H0 n=>intro _ h;rw[Nat.gcd_zero_left];exact h
 |H1 m n hm ih=>
  intro h1 h2;rw[Nat.gcd_rec];refine ih ?_ h1;intro i;have e:=h1.mul (n/m) (i+n%m);rw[nk,Nat.mod_add_div] at e;rw[<-e];exact h2 i
theorem agree {U V:Nat->Int} {p q:Nat} (hp:0<p) (hq:0<q) (hU:Per U p) (hV:Per V q) (h: ∀i,i<p+q->U i=V i): ∀i,U i=V i:=by
 intro i
 induction i using Nat.strongRecOn with
 | _ i ih=>
  by_cases hi:i<p+q
  ·exact h i hi
  ·have e1:U i=U (i-p):=by have:=hU (i-p);rw[rf G] at this;exact this
   have e2:V (i-p)=V (i-p-q):=by have:=hV (i-p-q);rw[rf G] at this;exact this
   have e3:U (i-q)=U (i-p-q):=by have:=hU (i-p-q);rw[show i-p-q+p=i-q by omega] at this;exact this
   have e4:V i=V (i-q):=by have:=hV (i-q);rw[rf G] at this;exact this
   rw[e1,ih (i-p) G,e2,<-ih (i-p-q) G,<-e3,ih (i-q) G,<-e4]
def FD (U V:Nat->Int) (N:Nat) (c:Int):Prop:=(c=0/\ ∀i,i<N->U i=V i)\/ ∃k,k<N/\(∀i,i<k->U i=V i)/\U k≠V k/\c=iI (U k) (V k)
theorem kD {a b:Int}:iI a b=0↔a=b:=by unfold iI;split<;>(try split)<;>omega
theorem FD.uniq {U V:Nat->Int} {M:Nat} {d:Int} (h:FD U V N c) (h':FD U V M d) (hc:c=0-> ∀i,i<M->U i=V i) (hd:d=0-> ∀i,i<N->U i=V i):c=d:=by
 rcases h with⟨rfl,h⟩|⟨k,hk,h,hn,e⟩
 ·rcases h' with⟨rfl,_⟩|⟨k',pe,_,Vt,e'⟩
  ·rfl
  ·exact absurd (hc rfl k' pe) Vt
 ·rcases h' with⟨rfl,h'⟩|⟨k',pe,h',Vt,e'⟩
  ·exact absurd (hd rfl k hk) hn
  ·have:k=k':=by
    by_cases h1:k<k'
    ·exact absurd (h' k h1) hn
    ·by_cases h2:k'<k
     ·exact absurd (h k' h2) Vt
     ·omega
   subst this;rw[e,e']
theorem FD.step {U V:Nat->Int} (h0:U 0=V 0) (h:FD (λi=>U (i+1)) (λi=>V (i+1)) N c):FD U V (N+1) c:=by
 rcases h with⟨rfl,h⟩|⟨k,hk,h,hn,e⟩
 ·refine .inl ⟨rfl,λi hi=> ?_⟩;cases i with
  |zero=>exact h0
  |succ i=>exact h i G
 ·refine .inr ⟨k+1,G,λi hi=> ?_,hn,e⟩;cases i with
  |zero=>exact h0
  |succ i=>exact h i G
theorem aLk (u v:AH): ∀(f k:Nat),FD (λi=>om u (i+k)) (λi=>om v (i+k)) f (OG u v f k)
 |0,_=> .inl ⟨rfl,λi hi=>G⟩
 | f+1,k=>by
  by_cases h:om u k=om v k
  ·rw [TQ (by rw[MP,MP];exact h)];have ih:=aLk u v f (k+1);refine FD.step (by simpa using h) ?_;have e:((k+1:Nat):Int)=(k:Int)+1:=G
   rw[<-e];simpa [nk,wu 1 k] using ih
  ·refine .inr ⟨0,G,λi hi=>G,by simpa using h,?_⟩;rw[OE G (by rw[MP,MP];exact λe=>h (kD.1 e)),MP,MP];simp
theorem aLl (hu:0<u.length) (hv:0<v.length):FD (om u) (om v) (u.length+v.length) (OH u v):=by
 unfold OH;rw[bz G];have:=aLk u v (u.length+v.length) 0;simpa using this
def Lt (U V:Nat->Int):Prop:= ∃k,(∀i,i<k->U i=V i)/\U k<V k
theorem Lt.trans {U V W:Nat->Int} (h:Lt U V) (h':Lt V W):Lt U W:=by
 obtain⟨k,h,hk⟩:=h;obtain⟨m,h',hm⟩:=h';by_cases h1:k<m
 ·exact⟨k,λi hi=>by rw[h i hi,h' i G],by rw[<-h' k h1];exact hk⟩
 ·by_cases h2:m<k
  ·exact⟨m,λi hi=>by rw[h i G,h' i hi],by rw[h m h2];exact hm⟩
  ·have:k=m:=G
   subst this;exact⟨k,λi hi=>by rw[h i hi,h' i hi],G⟩
theorem aYz (hu:0<u.length) (hv:0<v.length):OH u v<0↔Lt (om u) (om v):=by
 constructor
 ·intro h;rcases aLl hu hv with⟨e,_⟩|⟨k,_,hk,hn,e⟩
  ·omega
  ·refine ⟨k,hk,?_⟩;rw[e] at h;unfold iI at h;split at h
   ·assumption
   ·split at h<;>omega
 ·rintro ⟨k,hk,bc⟩;rcases aLl hu hv with⟨e,h⟩|⟨m,_,hm,hn,e⟩
  ·have:=agree hu hv (rX u) (rX v) h k;omega
  ·have:k=m:=by
    by_cases h1:k<m
    ·have:=hm k h1;omega
    ·by_cases h2:m<k
     ·exact absurd (hk m h2) hn
     ·omega
   subst this;rw[e];unfold iI;rw[df bc];decide
theorem LM (w:AH): ∀(k i:Nat),i<k*w.length->(rep w k).getD i 0=om w i
 |0,i,h=>G
 | k+1,i,h=>by
  have e:((k+1:Nat):Int)=1+(k:Int):=G
  have e2:rep w ((k+1:Nat):Int)=w++rep w k:=by
   unfold rep;rw[show((k+1:Nat):Int).toNat=k+1 by omega,List.replicate_succ];simp
  rw[e2];by_cases hi:i<w.length
  ·rw[HY hi,ak,ak,ji hi]
  ·rw [ak,ig G,<-ak,LM w k (i-w.length) (by rw[yf] at h;omega)];have:=rX w (i-w.length);rw[rf G] at this;exact this.symm
variable {u:AH} {f p:Nat}
def lpF (u:AH):Nat->Int->Int
 |0,_=>0
 |f+1,p=>if u.drop p.toNat=u.take ((u.length:Int)-p).toNat then p else lpF u f (p+1)
def lp (u:AH):Int:=lpF u u.length 1
theorem bDi {p:Int} (hf:0<f) (h:u.drop p.toNat=u.take ((u.length:Int)-p).toNat):lpF u f p=p:=by
 obtain⟨f,rfl⟩: ∃g,f=g+1:=⟨f-1,G⟩;rw[lpF,df h]
theorem bIv {p:Int} (hf:0<f) (h: ¬u.drop p.toNat=u.take ((u.length:Int)-p).toNat):lpF u f p=lpF u (f-1) (p+1):=by
 obtain⟨f,rfl⟩: ∃g,f=g+1:=⟨f-1,G⟩;rw[lpF,bz h];rfl
def PL (u:AH) (p:Nat):Prop:=u.drop p=u.take (u.length-p)
theorem MK:PL u p↔ ∀i,i+p<u.length->u.getD (i+p) 0=u.getD i 0:=by
 constructor
 ·intro h i hi;have:=bq (λl=>l.getD i 0) h;simp only[ak,qm,og] at this;rw[df G] at this;rw[ak,ak,wu];exact this
 ·intro h;refine xg cD λi h1 h2=> ?_;simp only[az] at h1;have:=h i G;simp only[ak] at this;rw[av G,av G] at this;simp only[oh] at this;rw[Bh,yu,<-this];simp only[wu]
theorem aBb (u:AH): ∀(f:Nat) (p:Nat),1<=p->p+f=u.length+1->p<=u.length-> ∃r:Nat,lpF u f p=r/\p<=r/\r<=u.length/\PL u r/\ ∀q,p<=q->q<r-> ¬PL u q
 |0,p,_,h2,h3=>G
 | f +1,p,h1,h2,h3=>by
  have e:((u.length:Int)-(p:Int)).toNat=u.length-p:=G
  by_cases h:PL u p
  ·refine ⟨p,bDi G ?_,di _,h3,h,λq a b=>G⟩;rw[cz,e];exact h
  ·rw [bIv G (by rw[cz,e];exact h)]
   have bc:p<u.length:=by
    rcases fo p u.length with h'|h'
    ·exact h'
    ·have:p=u.length:=G
     subst this;exact absurd (by unfold PL;simp) h
   obtain⟨r,hr,h4,h5,h6,h7⟩:=aBb u f (p+1) G G G;refine⟨r,?_,G,h5,h6,λq a b=> ?_⟩
   ·rw[<-hr];rfl
   ·by_cases hq:q=p
    ·subst hq;exact h
    ·exact h7 q G b
theorem JR (h:0<u.length): ∃r:Nat,lp u=r/\1<=r/\r<=u.length/\PL u r/\ ∀q,1<=q->q<r-> ¬PL u q:=
 aBb u u.length 1 (di 1) G h
def rl (u:AH):Int:=if (u.length:Int)%lp u≠0 then u.length else lp u
theorem aAk (hp:0<p) (h:PL u p): ∀i,i<u.length->u.getD i 0=u.getD (i%p) 0:=by
 intro i
 induction i using Nat.strongRecOn with
 | _ i ih=>
  intro hi;by_cases bc:i<p
  ·rw[lh bc]
  ·have:=MK.1 h (i-p) G;rw[rf G] at this;rw[this,ih (i-p) G G,<-zm G]
theorem aKf (hp:0<p) (hn:p<=u.length) (i:Nat):om (u.take p) i=u.getD (i%p) 0:=by
 unfold om;rw[ax,za hn];simp only[ak];rw[og,df (ze _ hp)]
theorem bCp (hp:0<p) (hn:p<=u.length) (hd:p∣u.length) (h:PL u p) (i:Nat):om u i=om (u.take p) i:=by
 rw[aKf hp hn];unfold om;rw[aAk hp h _ (ze _ G),Nat.mod_mod_of_dvd _ hd]
theorem aKc {d:Nat} (h:Per (om u) d):PL u d:=by
 refine MK.2 λi hi=> ?_;rw[<-HY hi,<-HY (by omega:i<u.length)];exact h i
theorem aJo (h:0<u.length): ∃r:Nat,rl u=r/\1<=r/\r<=u.length/\(∀i,om u i=om (u.take r) i)/\ ∀d,1<=d->Per (om u) d->r<=d:=by
 obtain⟨p,hp,h1,h2,h3,h4⟩:=JR h
 have key: ∀d,1<=d->Per (om u) d->d<u.length->p∣u.length/\p<=d:=by
  intro d hd qn bc;have hg:Per (om u) (Nat.gcd d u.length):=Per.gcd _ _ qn (rX u);have g1:Nat.gcd d u.length∣u.length:=Nat.gcd_dvd_right _ _;have g2:Nat.gcd d u.length<=d:=Nat.le_of_dvd G (Nat.gcd_dvd_left _ _);have g3:0<Nat.gcd d u.length:=Nat.gcd_pos_of_pos_left _ G;generalize Nat.gcd d u.length=g at*
  have p1:p<=g:=by
   rcases fo g p with a|a
   ·exact absurd (aKc hg) (h4 g g3 a)
   ·exact a
  have g4:2*g<=u.length:=by
   obtain⟨k,hk⟩:=g1
   have:2<=k:=by
    rcases fo k 2 with a|a
    ·have:k=0\/k=1:=G
     rcases this with rfl|rfl<;>omega
    ·exact a
   rw[hk]
   calc 2*g<=k*g:=ut _ this
    _=g*k:=Ay _ _
  have ag: ∀i,om (u.take p) i=om u i:=by
   refine agree (p:=p) (q:=g) G g3 ?_ hg λi hi=> ?_
   ·have:=rX (u.take p);rwa[ax,za h2] at this
   ·rw[aKf G h2,HY G,<-aAk G h3 i G]
  have pp:Per (om u) p:=by
   intro i;rw[<-ag,<-ag];have:=rX (u.take p) i;rwa[ax,za h2] at this
  have hh:Per (om u) (Nat.gcd p u.length):=Per.gcd _ _ pp (rX u);have e1:Nat.gcd p u.length∣p:=Nat.gcd_dvd_left _ _;have e2:Nat.gcd p u.length∣u.length:=Nat.gcd_dvd_right _ _;have e3:0<Nat.gcd p u.length:=Nat.gcd_pos_of_pos_left _ G;have e4:=Nat.le_of_dvd G e1
  have e5:p<=Nat.gcd p u.length:=by
   rcases fo (Nat.gcd p u.length) p with a|a
   ·exact absurd (aKc hh) (h4 _ e3 a)
   ·exact a
  have e6:Nat.gcd p u.length=p:=G
  rw[e6] at e2;exact⟨e2,G⟩
 by_cases hd:p∣u.length
 ·refine ⟨p,?_,h1,h2,bCp G h2 hd h3,λd a b=> ?_⟩
  ·unfold rl;rw[hp,bz]
   ·intro hn;refine hn ?_;rw[<-Ao,Nat.mod_eq_zero_of_dvd hd];rfl
  ·rcases fo d u.length with c|c
   ·exact(key d a b c).2
   ·omega
 ·refine ⟨u.length,?_,G,di _,λi=>by rw[ve],λd a b=> ?_⟩
  ·unfold rl;rw[hp,df];intro hz;rw[<-Ao] at hz;exact hd (Nat.dvd_of_mod_eq_zero G)
  ·rcases fo d u.length with c|c
   ·exact absurd (key d a b c).1 hd
   ·exact c
theorem BP (h:0<u.length):1<=rl u/\rl u<=u.length:=by
 obtain⟨r,e,h1,h2,_⟩:=aJo h;omega
theorem aVn (h:0<u.length):1<=lp u/\lp u<=u.length:=by
 obtain⟨r,e,h1,h2,_⟩:=JR h;omega
theorem bIk {a:Nat} (hu:0<u.length) (ha:0<a) (i:Nat):om (rep u a) i=om u i:=by
 have l:(rep u a).length=a*u.length:=by rw[qP,cz]
 have hp:0<a*u.length:=Jr ha hu;have hm:i%(a*u.length)<a*u.length:=ze _ hp;have e:om (rep u a) i=(rep u a).getD (i%(rep u a).length) 0:=rfl;rw[e,l,LM u a _ hm];unfold om;rw[Nat.mod_mod_of_dvd _ (Nat.dvd_mul_left _ _)]
end Go.Pure
namespace Go.Eng
open Go Go.RowKit
variable {w:World}
theorem bBy (k:IntKind):Rd w none ([]:AH).length 0 1 (ints k []):=⟨rfl,cD,cD,λj v hv=>by simp[ints] at hv⟩
theorem bBx {k:IntKind} {x:Addr} {len cap:Nat} {zs:AH} (hl:len<=cap) (hm:cap<=maxLen) (hz:zs.length=cap) (rp: ∀i,i<zs.length->w.cell? (x.add i)=some (.int k (zs.getD i 0))) (hwz: ∀n∈zs,(Lit.int k n).wf=true):
  ∃l:AH,len=l.length/\Rd w (some x) l.length cap 1 (ints k l)/\ ∀n∈l,(Lit.int k n).wf=true:=by
 unfold maxLen at hm;have hlen:(zs.take len).length=len:=by rw[ax];omega
 refine⟨zs.take len,hlen.symm,⟨by rw[cZ];omega,G,G,λj v hv=>⟨x,rfl,?_⟩⟩,λn hn=>hwz n (mg hn)⟩
 have hj:j<len:=by
  rcases fo j len with h|h
  ·exact h
  ·rw[mo (by rw[cZ];omega)] at hv;cases hv
 rw[rp j G];have hjz:j<zs.length:=G
 simp[ints,hj,av hjz] at hv;subst hv;simp[ak,av hjz]
theorem xD {l:AH} (h: ∀x∈l,(Lit.int .u8 x).wf=true):aP l:=λx hx=>by
 have:=h x hx;have:=bounds_u8 this;omega
end Go.Eng
namespace Go.Eng
open Go
section
variable {P:Program} {n:Nd} {B:Nat} {w0:World} {L:Env} {R:List Row} {ty:TypeId}
theorem EJ (g j:Nat):(⟨g,0,none⟩:Addr).add j=⟨g,j,none⟩:=by unfold Addr.add;split<;>simp_all
theorem Hp.cellAt {w:World} (h:Hp B w0 w R) (i:Nat) {r:Row} {g j:Nat} {v:Value} (hi:R[i]? =some r) (hA:r.A=some ⟨g,0,none⟩) (hv:r.xs[j]? =some v):w.cell? ⟨g,j,none⟩=some v:=by
 obtain⟨a,ha,hc⟩:=(Row.rd (h.own r (fw hi))).cell hv;rw[hA] at ha;simp only[pat,ky,lv] at ha;rw[EJ] at ha;rw[ha];exact hc
theorem Hp.openAt {w:World} (h:Hp B w0 w R) (i:Nat) {r:Row} {g:Nat} (j:Nat) (hi:R[i]? =some r) (pk:r.ro=false) (hA:r.A=some ⟨g,0,none⟩):w.frozen? ⟨g,j,none⟩=false:=by
 have hw:=Row.lies_w (h.own r (fw hi)) pk;rcases hw.2 with⟨hn,_⟩|⟨g',cap,cur,hs,hb,hg,_⟩
 ·rw[hA] at hn;cases hn
 ·rw [hA] at hs;simp only[ku,lv,Aj,Au,Ag] at hs;obtain⟨rfl,rfl⟩:=hs;unfold World.frozen?;simp[hg]
theorem YK {α:Type} (l:List α) (j k:Nat) (v:α):(l.set j v).take k=(l.take k).set j v:=by
 apply uo;intro i;simp only[og,xx,ax];by_cases h1:i<k
 ·by_cases h2:j=i
  ·subst h2;have e:(j<min k l.length)=(j<l.length):=by rw[eq_iff_iff];omega
   simp[h1,e]
  ·simp[h1,h2]
 ·by_cases h2:j=i
  ·subst h2;have e: ¬j<min k l.length:=G
   simp[h1,e]
  ·simp[h1,h2]
theorem Hp.set1 {w:World} (h:Hp B w0 w R) (i:Nat) {r:Row} {g j:Nat} {v:Value} (hi:R[i]? =some r) (pk:r.ro=false) (hA:r.A=some ⟨g,0,none⟩):Hp B w0 (w.setCell ⟨g,j,none⟩ v) (R.set i {r with xs:=r.xs.set j v}):=by
 have hw:=Row.lies_w (h.own r (fw hi)) pk;rcases hw.2 with⟨hn,_⟩|⟨g',cap,cur,hs,hb,hg,hnc,tk,lf,ht⟩
 ·rw[hA] at hn;cases hn
 ·rw [hA] at hs;simp only[ku,lv,Aj,Au,Ag] at hs;obtain⟨rfl,rfl⟩:=hs;have bc:g<w.heap.size:=(gm.1 hg).1;have Qr:w.heap[g]= .cells cur r.e (0,0):=(gm.1 hg).2
  have Vm:(w.setCell ⟨g,j,none⟩ v).heap[g]? =some (.cells (cur.setIfInBounds j v) r.e (0,0)):=by
   simp[World.setCell,bc,Array.getElem_modify,Qr]
  refine h.upd hi (row:=some g) ⟨rfl,rfl,rfl,by simp[World.setCell],λk _ hk=> ?_⟩ (di _) (λk hk=> ?_) ?_ (λa' oe=> .inl ⟨a',oe,rfl⟩)
  ·have: ¬g=k:=λe=>hk (by simp[e]);simp[World.setCell,vw,this]
  ·obtain rfl:=jc hk;exact⟨_,hA,rfl⟩
  ·unfold Row.lies;simp only[pk];refine⟨by simpa using hw.1, .inr ⟨g,r.c,_,by rw[hA],hb,Vm,hnc,tk,by simpa using lf,?_⟩⟩;rw[Array.toList_setIfInBounds,YK,ht]
theorem aLy {f:FuncId} {z8:List Operand} {ts:Array TypeId} {vs:AG} {v:Value} {R1:List Row} (ha:evs L z8=some vs) (hc: ∀w,Hp B w0 w R-> ∃w',(callFunc f vs.toArray).run P w= .ok (.value v) w'/\Hp B w0 w' R1):
  Ac P n B w0 (.call {callee:= .value (.func f),args:=z8.toArray,argTypes:=ts}) ty L R (λu R'=>u=v/\R'=R1):=by
 intro a w o K Q ho _ hs hp hk;have e1:=hs.evs ha;obtain⟨w',hr,cm⟩:=hc w hp;have hf:ev L (.func f)=some (.func (.func f) #[] #[]):=rfl;unfold Oper.wp;simp only[execOp,ho,resolve,hs.ev hf,Deferred.ofValue,invoke,kg,ny,jw,uj,e1,uk,je,jk,hr,Oper.upon];exact hk _ _ _ cm ⟨rfl,rfl⟩
end
def bv (x:BitVec 32):Int:=(x.toNat:Int)
theorem AX (m:Nat) (h:m<4294967296):IntKind.u32.wrap (m:Int)=m:=by
 rw[IntKind.wrap_u32];omega
theorem qW (x:BitVec 32):BitVec.ofInt 32 (bv x)=x:=by
 apply BitVec.eq_of_toNat_eq;unfold bv;have:=x.isLt;simp
theorem aZh {x y:BitVec 32} (h:bv x=bv y):x=y:=by
 have:=bq (BitVec.ofInt 32) h;rwa[qW,qW] at this
theorem bAl (p:Int):IntKind.u32.wrap p=bv (BitVec.ofInt 32 p):=by
 rw[IntKind.wrap_u32];unfold bv;rw[zk];omega
section
variable {P:Program} {n:Nd} {B:Nat} {w0:World} {L:Env} {R:List Row} {ty:TypeId}
theorem bBl (p q:BitVec 32) (w:World):(Op.intBits .and .u32 (bv p) (bv q)).run P w= .ok (.int .u32 (bv (p &&& q))) w:=by
 show Result.ok (Value.int .u32 (IntKind.u32.wrap ((BitVec.ofInt 32 (bv p) &&& BitVec.ofInt 32 (bv q)).toNat:Int))) w=_;rw[qW,qW,AX _ (BitVec.isLt _)];rfl
theorem aJl (p q:BitVec 32) (w:World):(Op.intBits .xor .u32 (bv p) (bv q)).run P w= .ok (.int .u32 (bv (p^^^q))) w:=by
 show Result.ok (Value.int .u32 (IntKind.u32.wrap ((BitVec.ofInt 32 (bv p)^^^BitVec.ofInt 32 (bv q)).toNat:Int))) w=_;rw[qW,qW,AX _ (BitVec.isLt _)];rfl
theorem aSw (p q:Int) (w:World):(Op.intBits .xor .u8 p q).run P w= .ok (.int .u8 ((BitVec.ofInt 8 p^^^BitVec.ofInt 8 q).toNat:Int)) w:=by
 show Result.ok (Value.int .u8 (IntKind.u8.wrap ((BitVec.ofInt 8 p^^^BitVec.ofInt 8 q).toNat:Int))) w=_
 have e3:IntKind.u8.wrap ((BitVec.ofInt 8 p^^^BitVec.ofInt 8 q).toNat:Int)=((BitVec.ofInt 8 p^^^BitVec.ofInt 8 q).toNat:Int):=by
  rw[Cm];have:=(BitVec.ofInt 8 p^^^BitVec.ofInt 8 q).isLt;omega
 rw[e3]
theorem bBi (p:BitVec 32) (j:IntKind) (k:Nat) (hk:k<=32) (w:World):(Op.shift .shr .u32 (bv p) j (k:Int)).run P w= .ok (.int .u32 (bv (p>>>k))) w:=by
 have hn: ¬((k:Int)<0):=G
 have hm:min (k:Int).toNat (IntKind.bits .u32)=k:=by
  have:IntKind.bits .u32=32:=rfl;omega
 have he:Int.fdiv (bv p) (2^k)=bv (p>>>k):=by
  unfold bv;rw[BitVec.toNat_ushiftRight,Nat.shiftRight_eq_div_pow,Bn _ (by exact vz G)];simp
 unfold Op.shift;rw[bz hn];simp only[hm,ny];rw[he]
theorem aEc {x y:Operand} {t u:TypeId} {p q:BitVec 32} (hx:ev L x=some (.int .u32 (bv p))) (hy:ev L y=some (.int .u32 (bv q))):Yl P n B w0 (.binOp .and t x y u) ty L R (.int .u32 (bv (p &&& q))):=by
 intro a w o ho _ hs _;simp[execOp,ho,binOp,eqGuard,hs.ev hx,hs.ev hy,bBl]
theorem EN {x y:Operand} {t u:TypeId} {p q:BitVec 32} (hx:ev L x=some (.int .u32 (bv p))) (hy:ev L y=some (.int .u32 (bv q))):Yl P n B w0 (.binOp .xor t x y u) ty L R (.int .u32 (bv (p^^^q))):=by
 intro a w o ho _ hs _;simp[execOp,ho,binOp,eqGuard,hs.ev hx,hs.ev hy,aJl]
theorem KD {x y:Operand} {t u:TypeId} {p:BitVec 32} {j:IntKind} {k:Nat} (hx:ev L x=some (.int .u32 (bv p))) (hy:ev L y=some (.int j (k:Int))) (hk:Nat.ble k 32=true):Yl P n B w0 (.binOp .shr t x y u) ty L R (.int .u32 (bv (p>>>k))):=by
 intro a w o ho _ hs _;simp[execOp,ho,binOp,eqGuard,hs.ev hx,hs.ev hy,bBi p j k (au hk)]
theorem bHe {x:Operand} {t:TypeId} {p:BitVec 32} (hx:ev L x=some (.int .u32 (bv p))):Yl P n B w0 (.unOp .xor t x) ty L R (.int .u32 (bv (4294967295#32^^^p))):=by
 intro a w o ho _ hs _;have e2:(if IntKind.u32.signed=true then(-1:Int) else IntKind.u32.max)=bv 4294967295#32:=rfl;simp[execOp,ho,hs.ev hx,Op.unary,e2,aJl]
theorem UH {x:Operand} {s d:TypeId} {j:IntKind} {p:Int} {td:TypeDesc} (ee:P.underlying s=some td) (hd:P.underlying d=some (.int .u32)) (hx:ev L x=some (.int j p)):Yl P n B w0 (.convert s d x) ty L R (.int .u32 (bv (BitVec.ofInt 32 p))):=by
 have:=mP (P:=P) (n:=n) (B:=B) (w0:=w0) (R:=R) (ty:=ty) ee hd hx;rwa[bAl] at this
theorem bFg {x y:Operand} {t u:TypeId} {p q:BitVec 32} (hx:ev L x=some (.int .u32 (bv p))) (hy:ev L y=some (.int .u32 (bv q))):Yl P n B w0 (.binOp .eql t x y u) ty L R (.bool (decide (p=q))):=by
 have:=dR (P:=P) (n:=n) (B:=B) (w0:=w0) (R:=R) (ty:=ty) (t:=t) (u:=u) hx hy
 have e:(decide (bv p=bv q))=decide (p=q):=by
  rw[yj];exact⟨aZh,λh=>by rw[h]⟩
 rwa[e] at this
theorem aRq {x y:Operand} {t u:TypeId} {p q:BitVec 32} (hx:ev L x=some (.int .u32 (bv p))) (hy:ev L y=some (.int .u32 (bv q))):Yl P n B w0 (.binOp .neq t x y u) ty L R (.bool (decide (p≠q))):=by
 have:=fE (P:=P) (n:=n) (B:=B) (w0:=w0) (R:=R) (ty:=ty) (t:=t) (u:=u) hx hy
 have e:(decide (bv p≠bv q))=decide (p≠q):=by
  rw[yj];exact⟨λh e=>h (by rw[e]),λh e=>h (aZh e)⟩
 rwa[e] at this
theorem bHb {x y:Operand} {t u:TypeId} {p q:Int} (hx:ev L x=some (.int .u8 p)) (hy:ev L y=some (.int .u8 q)):Yl P n B w0 (.binOp .xor t x y u) ty L R (.int .u8 ((BitVec.ofInt 8 p^^^BitVec.ofInt 8 q).toNat:Int)):=by
 intro a w o ho _ hs _;simp only[execOp,ho,binOp,eqGuard,hs.ev hx,hs.ev hy];simp[aSw]
theorem UX (k:Nat) (t d:TypeId) (p:AF) (ht:P.underlying t=some (.pointer d)) (w:World):(Op.equalIn (k+1) t (.pointer p) (.pointer none)).run P w= .ok p.isNone w:=by
 cases p<;>simp[Op.equalIn,ni ht,samePointer]
theorem LD (t d:TypeId) (p:AF) (ht:P.underlying t=some (.pointer d)) (w:World):(Op.equal t (.pointer p) (.pointer none)).run P w= .ok p.isNone w:=by
 exact UX 9999 t d p ht w
theorem QN {x:Operand} {t tf:TypeId} {fs:Array Field} {k st g j off m:Nat} (hu:P.underlying t=some (.struct fs)) (hf:(fs[k]?).map (λf=>(f.offset,f.type))=some (off,tf)) (gs:(P.info? tf).map (·.size)=some st) (w8:Nat.blt 0 st=true) (hx:ev L x=some (.pointer (some ⟨g,j,none⟩))) (hm:j+off=m):
  Yl P n B w0 (.fieldAddr t x k) ty L R (.pointer (some ⟨g,m,none⟩)):=by
 obtain⟨f,Sv,he⟩:=il.1 hf;simp only[yt] at he;obtain⟨rfl,rfl⟩:=he;have:=vG (P:=P) (n:=n) (B:=B) (w0:=w0) (R:=R) (ty:=ty) hu Sv gs w8 hx
 have e:(⟨g,j,none⟩:Addr).add f.offset=⟨g,m,none⟩:=by
  rw[<-hm];unfold Addr.add;split<;>simp_all
 rwa[e] at this
theorem QM {x ix:Operand} {t e:TypeId} {k:IntKind} {g m N:Nat} {i:Int} {r:Row} (q:Nat) (hq:R[q]? =some r) (hA:r.A=some ⟨g,0,none⟩) (ht:P.underlying t=some (.array N e)) (hi:(P.info? e).map (·.size)=some 1) (hx:ev L x=some (.pointer (some ⟨g,m,none⟩))) (sq:ev L ix=some (.int k i)) (bc:m<r.xs.length) (h0:0<=i) (h1:i<N):
  Yl P n B w0 (.indexAddr t x ix) ty L R (.pointer (some ⟨g,m+i.toNat,none⟩)):=by
 have Mf:(some ⟨g,m,none⟩:AF)=pat (some ⟨g,0,none⟩) m:=by
  simp only[pat,ky,EJ]
 have:=zB (P:=P) (n:=n) (B:=B) (w0:=w0) (ty:=ty) ht hi hx Mf sq (hA▸rdR q hq) bc h0 h1;rw[qy] at this;simpa only[pat,ky,EJ] using this
theorem bHf {x:Operand} {t:TypeId} {d:TypeDesc} {g j:Nat} {v:Value} {r:Row} (q:Nat) (hq:R[q]? =some r) (hA:r.A=some ⟨g,0,none⟩) (hu:P.underlying t=some d) (hd:AA d=false) (hx:ev L x=some (.pointer (some ⟨g,j,none⟩))) (hv:r.xs[j]? =some v):
  Yl P n B w0 (.load t x) ty L R v:=by
 have Mf:(some ⟨g,j,none⟩:AF)=pat (some ⟨g,0,none⟩) j:=by
  simp only[pat,ky,EJ]
 exact rF hu hd hx Mf (hA▸rdR q hq) hv
theorem aX {x y:Operand} {t:TypeId} {j:Nat} {r:Row} {v:Value} {g:Nat} (q:Nat) (hq:R[q]? =some r) (pk:r.ro=false) (hA:r.A=some ⟨g,0,none⟩) (gs:(P.info? t).map (·.size)=some 1) (hx:ev L x=some (.pointer (some ⟨g,j,none⟩))) (hy:ev L y=some v) (hv:v.cells.toList=[v]) (h1:v.oneCell'=true) (hj:j<r.xs.length):
  Ac P n B w0 (.store t x y) ty L R (λ_ R'=>R'=R.set q {r with xs:=r.xs.set j v}):=
 XF q hq pk hA gs hx (by simp only[pat,hA,ky,EJ]) hy hv h1 hj
theorem aRt {t:TypeId} {v:Value} (h: ∀w,(Instr.build t #[]).run P w= .ok v w):Yl P n B w0 (.build t #[]) ty L R v:=by
 intro a w o ho _ hs _;simp[execOp,ho,h]
theorem MI {r0 r1:Row}: ∀ {R:List Row} {i:Nat},R[i]? =some r0->(r1::R.eraseIdx i).Perm (R.set i r1)
 |[],i,h=>by simp at h
 |q::R,0,_=> .refl _
 |q::R,i+1,h=>by
  have ih:(r1::R.eraseIdx i).Perm (R.set i r1):=MI (by simpa using h);exact(List.Perm.swap q r1 _).trans (ih.cons q)
theorem Ct.at {f:FuncId} {args:Array Value} {r0 r1:Row} {V:Value} (i:Nat) (hi:R[i]? =some r0) (h:Ct P f args B w0 (r0::R.eraseIdx i) (λv R'=>v=V/\R'=r1::R.eraseIdx i)):Ct P f args B w0 R (λv R'=>v=V/\R'=R.set i r1):=by
 intro w hw
 have Nu:Hp B w0 w (r0::R.eraseIdx i):=by
  have hp:=MI (r1:=r0) hi;have bc:i<R.length:=(dw.1 hi).1
  have e:R.set i r0=R:=by
   rw[<-(dw.1 hi).2];exact List.set_getElem_self bc
  rw[e] at hp;exact hw.perm hp.symm
 refine(h w Nu).mono ?_;rintro e w' ⟨v,R',rfl,hh,rfl,rfl⟩;exact⟨_,_,rfl,hh.perm (MI hi),rfl,rfl⟩
theorem dL {x y:Operand} {t u d:TypeId} {p:AF} (ht:P.underlying t=some (.pointer d)) (hx:ev L x=some (.pointer p)) (hy:ev L y=some (.pointer none)):Yl P n B w0 (.binOp .eql t x y u) ty L R (.bool p.isNone):=by
 intro a w o ho _ hs _;simp[execOp,ho,binOp,eqGuard,hs.ev hx,hs.ev hy,LD t d p ht]
theorem xK {x y:Operand} {t u d:TypeId} {p:AF} (ht:P.underlying t=some (.pointer d)) (hx:ev L x=some (.pointer p)) (hy:ev L y=some (.pointer none)):Yl P n B w0 (.binOp .neq t x y u) ty L R (.bool (!p.isNone)):=by
 intro a w o ho _ hs _;simp[execOp,ho,binOp,eqGuard,hs.ev hx,hs.ev hy,LD t d p ht]
end
end Go.Eng
namespace Go.Eng
open Go Go.RowKit
def rdl (ls:AD) (i:Int):AH:=ls.getD i.toNat []
theorem aUb {ls:AD} {i:Int} (h0:0<=i) (h:i<ls.length):ls.drop i.toNat=rdl ls i::ls.drop (i+1).toNat:=by
 have hl:i.toNat<ls.length:=G
 have e:(i+1).toNat=i.toNat+1:=G
 rw[e,kv hl];simp[rdl,ak,av hl]
theorem bBv {ls:AD} {i:Int} (h0:0<=i) (h:i<ls.length):rdl ls i∈ls:=by
 have hl:i.toNat<ls.length:=G
 simp[rdl,ak,av hl]
def SlW (k:IntKind) (w:World) (vals:AG) (ls:AD):Prop:=vals.length=ls.length/\ ∀j:Nat,j<ls.length-> ∃(A:AF) (c:Nat),vals[j]? =some (Value.slice A (ls.getD j []).length c)/\Rd w A (ls.getD j []).length c 1 (ints k (ls.getD j []))/\(∀x∈ls.getD j [],(Lit.int k x).wf=true)/\(ls.getD j []).length<=140737488355327
theorem SlW.at {k:IntKind} {w:World} {vals:AG} {ls:AD} (h:SlW k w vals ls) {i:Int} (h0:0<=i) (h1:i<ls.length): ∃(A:AF) (c:Nat),vals[i.toNat]? =some (Value.slice A (rdl ls i).length c)/\Rd w A (rdl ls i).length c 1 (ints k (rdl ls i))/\(∀x∈rdl ls i,(Lit.int k x).wf=true)/\(rdl ls i).length<=140737488355327:=
 h.2 i.toNat G
theorem SlW.c {k:IntKind} {w w':World} {R:List Row} {vals:AG} {ls:AD} (h:SlW k w vals ls) (hw:Hp w.heap.size w w' R):SlW k w' vals ls:=
 ⟨h.1,λj hj=>by
  obtain⟨A,c,h1,h2,h3⟩:=h.2 j hj
  exact⟨A,c,h1,h2.below hw.below,h3⟩⟩
theorem jI (k:IntKind) (w:World):SlW k w [] []:=⟨rfl,λj hj=>by simp at hj⟩
section
variable {P:Program} {n:Nd} {B:Nat} {w0:World} {L:Env} {R:List Row} {ty:TypeId}
theorem fQ {x y:Operand} {t e sz:Nat} {v:Value} {xs vs:AG} {g:Nat} (i:Nat) (hi:R[i]? =some ⟨e,sz,some ⟨g,0,none⟩,1,1,xs,false⟩) (gs:(P.info? t).map (·.size)=some sz) (hx:ev L x=some (.pointer (some ⟨g,0,none⟩))) (hy:ev L y=some v) (hv:v.cells.toList=vs) (h1: ∀v∈vs,v.oneCell'=true) (hl:vs.length=sz):
  Ac P n B w0 (.store t x y) ty L R (λ_ R'=>R'=R.set i ⟨e,sz,some ⟨g,0,none⟩,1,1,vs,false⟩):=by
 intro a w o K Q ho k9 hs hp hk
 have Mq:xs.length=sz:=by
  have:=(Row.rd (hp.own _ (fw hi))).len;simpa using this
 have:=PE (P:=P) (n:=n) (B:=B) (w0:=w0) (ty:=ty) (j:=0) i hi rfl rfl (vs:=vs) (by rw[gs,hl]) hx (by simp[pat,Addr.add]) hy hv h1 (by simp only;omega);simp only[yc,je,nu,hl,<-Mq,Ih,jk] at this;rw[Mq] at this;exact this a w o K Q ho k9 hs hp hk
end
def prs (l:AE):AG:=l.flatMap λp=>[.int .i64 p.1, .int .i64 p.2]
def rdp (l:AE) (i:Int):Int × Int:=l.getD i.toNat (0,0)
theorem jB: ∀l:AE,(prs l).length=l.length*2
 |[]=>rfl
 |p::l=>by
  have:=jB l;unfold prs at*;rw[Dj,ah,this];simp;omega
theorem MF (l m:AE):prs (l++m)=prs l++prs m:=by simp[prs]
theorem ME: ∀(l:AE) (i:Nat),(prs l).drop (i*2)=prs (l.drop i)
 |l,0=>cD
 |[],i+1=>by simp[prs]
 |p::l,i+1=>by
  have:=ME l i;have e:(i+1)*2=i*2+1+1:=G
  rw[e];show((Value.int .i64 p.1::Value.int .i64 p.2::prs l).drop (i*2+1+1))=_;rw[Cb,Cb,this];rfl
theorem aUa {l:AE} {i:Int} (h0:0<=i) (h:i<l.length):l.drop i.toNat=rdp l i::l.drop (i+1).toNat:=by
 have hl:i.toNat<l.length:=G
 have e:(i+1).toNat=i.toNat+1:=G
 rw[e,kv hl];simp[rdp,ak,av hl]
theorem bIb {l:AE} {i:Int} (h0:0<=i) (h:i<l.length):((prs l).drop (i.toNat*2)).take 2=[.int .i64 (rdp l i).1, .int .i64 (rdp l i).2]:=by
 rw[ME,aUa h0 h];rfl
theorem bCg (l:AE): ∀v∈prs l,v.oneCell'=true:=by
 intro v hv;unfold prs at hv;obtain⟨p,_,hp⟩:=Ik.1 hv;simp at hp;rcases hp with rfl|rfl<;>rfl
section
variable {P:Program} {n:Nd} {B:Nat} {w0:World} {L:Env} {R:List Row} {ty:TypeId}
theorem KF {x:Operand} {t:TypeId} {d:TypeDesc} {A:AF} {m c:Nat} {l:AE} {i:Int} (hu:P.underlying t=some d) (hd:AA d=true) (gs:(P.info? t).map (·.size)=some 2) (hx:ev L x=some (.pointer (pat A (i.toNat*2)))) (hr:RdC B w0 R A m c 2 (prs l)) (h0:0<=i:=by omega) (h1:i<l.length:=by omega):
  Yl P n B w0 (.load t x) ty L R (.agg #[.int .i64 (rdp l i).1, .int .i64 (rdp l i).2]):=by
 have:=aIv (P:=P) (n:=n) (B:=B) (w0:=w0) (R:=R) (ty:=ty) hu hd gs hx rfl hr (by rw[jB];omega) G;rwa[bIb h0 h1] at this
theorem iW {s x:Operand} {t e:TypeId} {z:Value} {bytes m p c c2:Nat} {A A2:AF} {l news:AE} (i:Nat) (hi:R[i]? =some ⟨e,2,A,p,c,prs l,false⟩) (ht:P.underlying t=some (.slice e)) (dg:(P.info? e).map (λi=>(i.zero,i.size,i.bytes))=some (some z,2,bytes)) (hz:z.cells.size=2) (o9:Nat.blt 0 bytes=true)
  (hs:ev L s=some (.slice A p c)) (hx:ev L x=some (.slice A2 m c2)) (jj:RdC B w0 R A2 m c2 2 (prs news)) (mc:(p+m)*bytes<=140737488355328):
  Ac P n B w0 (.call {callee:= .builtin .append,args:= #[s,x],argTypes:= #[t,t]}) ty L R (λv R'=> ∃A' c',v= .slice A' (p+m) c'/\R'=R.set i ⟨e,2,A',p+m,c',prs (l++news),false⟩):=by
 have:=pJ (P:=P) (n:=n) (B:=B) (w0:=w0) (ty:=ty) i hi rfl ht dg hz rfl o9 hs hx jj (bCg news) mc;simp only[<-MF] at this;exact this
theorem PH {t e:TypeId} {x:Operand} {a b:Int} (ht:P.underlying t=some (.slice e)) (dg:(P.info? e).map (λi=>(i.zero,i.size))=some (some (.agg #[.int .i64 0, .int .i64 0]),2)) (hx:ev L x=some (.agg #[.int .i64 a, .int .i64 b])):
  Ac P n B w0 (.buildSlice t 1 #[(0,x)]) ty L R (λv R'=> ∃g,v= .slice (some ⟨g,0,none⟩) 1 1/\R'=⟨e,2,some ⟨g,0,none⟩,1,1,prs [(a,b)],false⟩::R):=by
 have hv:evp L [(0,x)]=some [(0, .agg #[.int .i64 a, .int .i64 b])]:=by simp[evp,hx]
 exact qA (P:=P) (n:=n) (B:=B) (w0:=w0) (L:=L) (R:=R) (ty:=ty) (len:=1) (ps:=[(0,x)]) (cells:= #[.int .i64 a, .int .i64 b]) ht dg hv cC cC cA (by rfl)
theorem aUi {w:World} {m c:Nat} {l:AE} (h:Rd w none m c 2 (prs l)):l=[]:=by
 cases l with
 |nil=>rfl
 |cons p l=>
  obtain⟨a,ha,_⟩:=h.at_ 0 (.int .i64 p.1) rfl;cases ha
theorem Hp.nilP {w:World} (h:Hp B w0 w R) (e:TypeId):Hp B w0 w (⟨e,2,none,0,0,prs [],false⟩::R):=h.nil e 2
theorem fJ {x:Operand} {t:TypeId} {d:TypeDesc} {g j m c sz:Nat} {xs:AG} {v:Value} (hr:RdC B w0 R (some ⟨g,0,none⟩) m c sz xs) (hu:P.underlying t=some d) (hd:AA d=false) (hx:ev L x=some (.pointer (some ⟨g,j,none⟩))) (hv:xs[j]? =some v):Yl P n B w0 (.load t x) ty L R v:=
 rF hu hd hx (by simp only[pat,ky,EJ]) hr hv
theorem cB {x:Operand} {t:TypeId} {d:TypeDesc} {g j st m c sz:Nat} {xs vs:AG} (hr:RdC B w0 R (some ⟨g,0,none⟩) m c sz xs) (hu:P.underlying t=some d) (hd:AA d=true) (gs:(P.info? t).map (·.size)=some st) (hx:ev L x=some (.pointer (some ⟨g,j,none⟩))) (hv:(xs.drop j).take st=vs) (hj:j+st<=xs.length) (w8:Nat.blt 0 st=true):Yl P n B w0 (.load t x) ty L R (.agg vs.toArray):=by
 have:=aIv (P:=P) (n:=n) (B:=B) (w0:=w0) (ty:=ty) hu hd gs hx (by simp only[pat,ky,EJ]) hr hj (au w8);rwa[hv] at this
theorem bW {x ix:Operand} {t e:TypeId} {k:IntKind} {g j q N m c sz:Nat} {i:Int} {xs:AG} (hr:RdC B w0 R (some ⟨g,0,none⟩) m c sz xs) (ht:P.underlying t=some (.array N e)) (hi:(P.info? e).map (·.size)=some 1) (hx:ev L x=some (.pointer (some ⟨g,j,none⟩))) (sq:ev L ix=some (.int k i)) (bc:j<xs.length) (h0:0<=i) (h1:i<N) (hq:j+i.toNat=q):
  Yl P n B w0 (.indexAddr t x ix) ty L R (.pointer (some ⟨g,q,none⟩)):=by
 subst hq
 have Mf:(some ⟨g,j,none⟩:AF)=pat (some ⟨g,0,none⟩) j:=by
  simp only[pat,ky,EJ]
 have:=zB (P:=P) (n:=n) (B:=B) (w0:=w0) (ty:=ty) ht hi hx Mf sq hr bc h0 h1;rw[qy] at this;simpa only[pat,ky,EJ] using this
theorem dW {t:TypeId} {ps:List (Nat × Operand)} {vs:List (Nat × Value)} {v:Value} (hv:evp L ps=some vs) (h: ∀w,(Instr.build t vs.toArray).run P w= .ok v w):Yl P n B w0 (.build t ps.toArray) ty L R v:=by
 intro a w o ho _ hs _;have Oy:=hs.evp hv;simp[execOp,ho,Oy,h]
theorem aAc (l:AE) (i:Nat):(prs l).take (i*2)=prs (l.take i):=by
 have h:prs l=prs (l.take i)++prs (l.drop i):=by rw[<-MF,gu]
 have hl:=jB (l.take i);rw[ax] at hl;rw[h];by_cases hi:i<=l.length
 ·rw[Et G,bg G]
 ·rw[ou G,show prs []=[] from rfl,jk,bg G]
theorem RdC.toP {A:AF} {m h c:Nat} {l:AE} (hr:RdC B w0 R A m c 2 (prs l)) (h2:h<=m):RdC B w0 R A h c 2 (prs (l.take h)):=by
 have:=hr.to h2;rwa[aAc] at this
theorem RdC.fromP {A:AF} {m c h:Nat} {l:AE} (hr:RdC B w0 R A m c 2 (prs l)) (h1:h<=m):RdC B w0 R (jE A h c 2) (m-h) (c-h) 2 (prs (l.drop h)):=by
 intro w hw;have hl:=(hr w hw).len;have:=hr.cut h1 (di m) w hw;rw[ME,bg (by rw[jB,az];rw[jB] at hl;omega)] at this;exact this
theorem ZA (k:Nat) (t e:TypeId) (A:AF) (m c:Nat) (ht:P.underlying t=some (.slice e)) (w:World):(Op.equalIn (k+1) t (.slice A m c) (.slice none 0 0)).run P w= .ok A.isNone w:=by
 cases A<;>simp[Op.equalIn,ni ht]
theorem aNa (t e:TypeId) (A:AF) (m c:Nat) (ht:P.underlying t=some (.slice e)) (w:World):(Op.equal t (.slice A m c) (.slice none 0 0)).run P w= .ok A.isNone w:=ZA 9999 t e A m c ht w
theorem aIt {x y:Operand} {t u e:TypeId} {A:AF} {m c:Nat} (ht:P.underlying t=some (.slice e)) (hx:ev L x=some (.slice A m c)) (hy:ev L y=some (.slice none 0 0)):Yl P n B w0 (.binOp .eql t x y u) ty L R (.bool A.isNone):=by
 intro a w o ho _ hs _;simp[execOp,ho,binOp,eqGuard,hs.ev hx,hs.ev hy,aNa t e A m c ht]
theorem XG {t e:TypeId} (ht:P.underlying t=some (.slice e)) (dg:(P.info? e).map (λi=>(i.zero,i.size))=some (some (.agg #[.int .i64 0, .int .i64 0]),2)):
  Ac P n B w0 (.buildSlice t 0 #[]) ty L R (λv R'=> ∃g,v= .slice (some ⟨g,0,none⟩) 0 0/\R'=⟨e,2,some ⟨g,0,none⟩,0,0,prs [],false⟩::R):=
 qA (P:=P) (n:=n) (B:=B) (w0:=w0) (L:=L) (R:=R) (ty:=ty) (len:=0) (ps:=[]) (vs:=[]) (cells:= #[]) ht dg rfl cC cC cA (by rfl)
theorem Hp.selR {w:World} {F F':List Row} (h:Hp B w0 w (F++R)) (is:List Nat) (hn:is.Nodup) (hR:is.map (λi=>F[i]?)=F'.map some):Hp B w0 w (F'++R):=by
 have hp:=kz.1 h.apart;have hF:Hp B w0 w F:=⟨h.below,h.base,λr hr=>h.own r (gp.2 (.inl hr)),hp.1,h.late⟩;have Vb:=hF.sel is hn hR
 have mem: ∀q∈F',q∈F:=by
  intro q hq;have h1:some q∈F'.map some:=iy.2 ⟨q,hq,rfl⟩;rw[<-hR] at h1;obtain⟨i,_,hi⟩:=iy.1 h1;exact fw hi
 refine⟨h.below,h.base,λr hr=> ?_,kz.2 ⟨Vb.apart,hp.2.1,λq hq r hr=>hp.2.2 q (mem q hq) r hr⟩,h.late⟩;rcases gp.1 hr with h1|h1
 ·exact h.own r (gp.2 (.inl (mem r h1)))
 ·exact h.own r (gp.2 (.inr h1))
end
end Go.Eng
namespace Go.Eng
open Go Go.RowKit
section
variable {P:Program} {n:Nd} {B:Nat} {w0:World} {L:Env} {R:List Row} {ty:TypeId}
theorem yF {x:Operand} {t tf:TypeId} {fs:Array Field} {k st g j:Nat} (off m:Nat) (hu:P.underlying t=some (.struct fs)) (gs:(P.info? tf).map (·.size)=some st) (hx:ev L x=some (.pointer (some ⟨g,j,none⟩))) (hf:(fs[k]?).map (λf=>(f.offset,f.type))=some (off,tf):=by exact rfl) (w8:Nat.blt 0 st=true:=by exact rfl) (hm:j+off=m:=by exact rfl):Yl P n B w0 (.fieldAddr t x k) ty L R (.pointer (some ⟨g,m,none⟩)):=QN hu hf gs w8 hx hm
theorem yL {x:Operand} {t e:TypeId} {d:TypeDesc} {g j m c sz:Nat} {xs:AG} {v:Value} {ro:Bool} (i:Nat) (hu:P.underlying t=some d) (hx:ev L x=some (.pointer (some ⟨g,j,none⟩))) (hi:R[i]? =some ⟨e,sz,some ⟨g,0,none⟩,m,c,xs,ro⟩) (hv:xs[j]? =some v) (hd:AA d=false:=by exact rfl):Yl P n B w0 (.load t x) ty L R v:=fJ (rdr i hi) hu hd hx hv
end
end Go.Eng
namespace Go.Eng
open Go Go.RowKit Go.Proofs Go.Sort
theorem JO: ∀(l:AE) (t:Nat),t<l.length*2->(prs l)[t]? =some (if t%2=0 then .int .i64 (l.getD (t/2) (0,0)).1 else .int .i64 (l.getD (t/2) (0,0)).2)
 |[],t,h=>by simp at h
 |p::l,0,_=>rfl
 |p::l,1,_=>rfl
 |p::l,t+2,h=>by
  have ih:=JO l t (by simp only[dh] at h;omega);have e1:(t+2)%2=t%2:=G
  have e2:(t+2)/2=t/2+1:=G
  rw[e1,e2];show(Value.int .i64 p.1::Value.int .i64 p.2::prs l)[t+2]? =_;rw[Cy,Cy,ih];rfl
def encP {l:AE} (x: {p:Int × Int//p∈l}):AG:=[.int .i64 x.1.1, .int .i64 x.1.2]
theorem TH {l:AE} [Inhabited {p:Int × Int//p∈l}] (d:Array {p:Int × Int//p∈l}):(flatK encP 2 d).toList=prs (d.toList.map Subtype.val):=by
 apply uo;intro t;have hs:(flatK encP 2 d).size=d.size*2:=size_flatK _ _ _;by_cases h:t<d.size*2
 ·rw [JO _ t (by simpa using h),ry];have h2:t/2<d.size:=G
  have hg:(flatK encP 2 d)[t]? =some ((flatK encP 2 d)[t]!):=by
   rw[qd (by rw[hs];exact h),uq _ t (by rw[hs];exact h)]
  rw[hg,get_flatK encP 2 d t h];have e:d[t/2]! =d[t/2]:=uq d _ h2
  have e3:(d.toList.map Subtype.val).getD (t/2) (0,0)=d[t/2].1:=by
   simp[ak,h2]
  rw[e,e3];rcases Nat.mod_two_eq_zero_or_one t with hm|hm
  ·rw[hm];rfl
  ·rw[hm];rfl
 ·rw[mo (by rw[jr,hs];omega),mo (by rw[jB];simp;omega)]
end Go.Eng
namespace Go.Pure
open Go Go.Eng
def orL:AH->Int
 |[]=>0
 |a::l=>if a≠0 then a else orL l
theorem bIg {l:AH} {k:Int} (h0:0<=k) (h:k<l.length) (hz:rd l k=0):orL (l.drop k.toNat)=orL (l.drop (k+1).toNat):=by
 rw[iX h0 h,orL,bz G]
theorem bCl {l:AH} {k:Int} (h0:0<=k) (h:k<l.length) (hz:rd l k≠0):orL (l.drop k.toNat)=rd l k:=by
 rw[iX h0 h,orL,df hz]
def ahd (ws:AD) (bs rs:AH) (t:Int × Int) (h:Int):Int:=rd rs (rd bs t.1+(t.2+h)%((rdl ws t.1).length:Int))
def aEq (ws:AD) (bs rs:AH) (h:Int) (t u:Int × Int):Int:=
 orL [iI (ahd ws bs rs t 0) (ahd ws bs rs u 0),iI (ahd ws bs rs t h) (ahd ws bs rs u h),iI t.1 u.1,iI t.2 u.2]
def TOk (ws:AD) (bs:AH) (N:Nat) (t:Int × Int):Prop:=(0<=t.1/\t.1<ws.length/\t.1<bs.length)/\(0<=t.2/\t.2<(rdl ws t.1).length/\t.2<=1000000)/\0<(rdl ws t.1).length/\(0<=rd bs t.1/\rd bs t.1+(rdl ws t.1).length<=N)
def iH (bs:AH) (t:Int × Int):Int:=rd bs t.1+t.2
def IA (ws:AD) (bs rs:AH) (h:Int) (t u:Int × Int):Prop:=ahd ws bs rs t 0≠ahd ws bs rs u 0\/ahd ws bs rs t h≠ahd ws bs rs u h
instance (ws:AD) (bs rs:AH) (h:Int) (t u:Int × Int):Decidable (IA ws bs rs h t u):=by unfold IA;infer_instance
def iO (ws:AD) (bs rs:AH) (h:Int) (l:AE):Nat->Int
 |0=>0
 |i+1=>iO ws bs rs h l i+if IA ws bs rs h (rdp l i) (rdp l (i+1:Nat)) then 1 else 0
theorem yH {ws:AD} {bs rs:AH} {h:Int} {l:AE} {i:Int} (hi:0<i):iO ws bs rs h l i.toNat=iO ws bs rs h l (i-1).toNat+if IA ws bs rs h (rdp l (i-1)) (rdp l i) then 1 else 0:=by
 obtain⟨k,rfl⟩: ∃k:Nat,i=(k:Int)+1:=⟨(i-1).toNat,G⟩;have e1:((k:Int)+1).toNat=k+1:=G
 have e2:((k:Int)+1-1)=k:=G
 rw[e1,e2,cz];rfl
theorem eT {l:AH} {i v:Int} (h0:0<=i) (h:i<l.length):rd (upd l i v) i=v:=by
 unfold rd upd;have hl:i.toNat<l.length:=G
 simp[ak,hl]
theorem fO {l:AH} {i j v:Int} (h0:0<=i) (hj:0<=j) (fd:i≠j):rd (upd l i v) j=rd l j:=by
 unfold rd upd;have:i.toNat≠j.toNat:=G
 simp[ak,this]
theorem kQ {l:AE} {i:Int} (h0:0<=i) (h:i<l.length):rdp l i∈l:=by
 have hl:i.toNat<l.length:=G
 simp[rdp,ak,av hl]
theorem bBu {l:AE} (hd:l.Nodup) {i j:Int} (h0:0<=i) (h:i<l.length) (g0:0<=j) (g:j<l.length) (e:rdp l i=rdp l j):i=j:=by
 have hi:i.toNat<l.length:=G
 have hj:j.toNat<l.length:=G
 simp only[rdp,ak,av hi,av hj,oh] at e;rcases jd i j with bc|bc|bc
 ·exact absurd e (dn.1 hd i.toNat j.toNat hi hj G)
 ·exact bc
 ·exact absurd e.symm (dn.1 hd j.toNat i.toNat hj hi G)
theorem zN {bs rk:AH} {l:AE} {f:Nat->Int} {i n:Int} (hnd:l.Nodup) (Pc: ∀t∈l,∀u∈l,iH bs t=iH bs u->t=u) (h0:0<=i) (hi:i<l.length) (fg: ∀t∈l,0<=iH bs t) (bc:iH bs (rdp l i)<rk.length)
  (m5: ∀j:Nat,j<i->rd rk (iH bs (rdp l j))=f j) (hn:n=f i.toNat): ∀j:Nat,(j:Int)<i+1->rd (upd rk (rd bs (rdp l i).1+(rdp l i).2) n) (iH bs (rdp l j))=f j:=by
 intro j hj;have Qm:=fg _ (kQ h0 hi);by_cases wi:(j:Int)=i
 ·subst wi;rw[cz] at hn;rw[<-hn];exact eT Qm bc
 ·have Md:=fg _ (kQ (show(0:Int)<=j by omega) (show(j:Int)<l.length by omega));have fd:iH bs (rdp l i)≠iH bs (rdp l j):=λe=>wi (bBu hnd G G h0 hi (Pc _ (kQ h0 hi) _ (kQ G G) e).symm);have e:=fO (l:=rk) (v:=n) Qm Md fd;rw[<-m5 j G];exact e
theorem EB {a b:Int}:iI a b<0↔a<b:=by unfold iI;split<;>(try split)<;>omega
theorem BI (ws:AD) (bs rs:AH) (h:Int) (t u:Int × Int):aEq ws bs rs h t u<0↔
  (ahd ws bs rs t 0<ahd ws bs rs u 0\/ahd ws bs rs t 0=ahd ws bs rs u 0/\(ahd ws bs rs t h<ahd ws bs rs u h\/ahd ws bs rs t h=ahd ws bs rs u h/\(t.1<u.1\/t.1=u.1/\t.2<u.2))):=by
 unfold aEq;simp only[orL];generalize ahd ws bs rs t 0=a;generalize ahd ws bs rs u 0=b;generalize ahd ws bs rs t h=c;generalize ahd ws bs rs u h=d;by_cases h1:a=b
 ·have e1:iI a b=0:=kD.2 h1;by_cases h2:c=d
  ·have e2:iI c d=0:=kD.2 h2;by_cases h3:t.1=u.1
   ·have e3:iI t.1 u.1=0:=kD.2 h3;by_cases h4:t.2=u.2
    ·have e4:iI t.2 u.2=0:=kD.2 h4;simp[e1,e2,e3,e4];omega
    ·have e4:iI t.2 u.2≠0:=λe=>h4 (kD.1 e);simp only[e1,e2,e3,ne_eq,not_true,Dw,xk,Fz,e4,EB];omega
   ·have e3:iI t.1 u.1≠0:=λe=>h3 (kD.1 e);simp only[e1,e2,ne_eq,not_true,Dw,xk,Fz,e3,EB];omega
  ·have e2:iI c d≠0:=λe=>h2 (kD.1 e);simp only[e1,ne_eq,not_true,Dw,xk,Fz,e2,EB];omega
 ·have e1:iI a b≠0:=λe=>h1 (kD.1 e);simp only[ne_eq,e1,Dw,Fz,EB];omega
theorem aSi (ws:AD) (bs rs:AH) (h:Int):Go.Sort.SWO (Go.Proofs.ltOf (aEq ws bs rs h)):=by
 refine⟨λx=> ?_,λx y z h1 h2=> ?_,λx y z h1 h2=> ?_⟩
 ·simp only[Go.Proofs.ltOf,sj,BI];omega
 ·simp only[Go.Proofs.ltOf,yx,BI] at*;omega
 ·simp only[Go.Proofs.ltOf,sj,BI] at*;omega
end Go.Pure
namespace Go.Pure
open Go Go.Eng
def nZ (ws:AD) (k:Nat):Nat:=((ws.take k).flatten).length
def rT (ws:AD) (k:Nat):AH:=(List.range k).map λi=>(nZ ws i:Int)
def turnsOf (w:Int) (j:Nat):AE:=(List.range j).map λi:Nat=>(w,(i:Int))
def gD (ws:AD):Nat->AE
 |0=>[]
 |k+1=>gD ws k++turnsOf k (rdl ws k).length
theorem BC (w:Int) {j:Int} (h:0<=j):turnsOf w (j+1).toNat=turnsOf w j.toNat++[(w,j)]:=by
 obtain⟨j,rfl⟩: ∃m:Nat,j=m:=⟨j.toNat,G⟩;rw[show((j:Int)+1).toNat=j+1 by omega,cz];unfold turnsOf;rw[zw,jo];rfl
theorem GR (w:Int) (j:Nat):(turnsOf w j).length=j:=by simp[turnsOf]
theorem jL {ws:AD} {k:Int} (h0:0<=k) (h:k<ws.length):(ws.take (k+1).toNat).flatten=(ws.take k.toNat).flatten++rdl ws k:=by
 rw[show ws.take (k+1).toNat=ws.take k.toNat++[rdl ws k] from ?_]
 ·simp
 ·have hl:k.toNat<ws.length:=G
  rw[show(k+1).toNat=k.toNat+1 by omega,uf,av hl];simp[rdl,ak,av hl]
theorem kC {ws:AD} {k:Int} (h0:0<=k) (h:k<ws.length):nZ ws (k+1).toNat=nZ ws k.toNat+(rdl ws k).length:=by
 unfold nZ;rw[jL h0 h,ah]
theorem JP (ws:AD) (k:Nat):nZ ws k<=ws.flatten.length:=by
 unfold nZ;have:=gu k ws
 calc ((ws.take k).flatten).length<=((ws.take k).flatten).length+((ws.drop k).flatten).length:=Bv _ _
  _=((ws.take k++ws.drop k).flatten).length:=by rw[qg,ah]
  _=_:=by rw[this]
theorem aIf {ws:AD} {k:Int} (h0:0<=k):rT ws (k+1).toNat=rT ws k.toNat++[(nZ ws k.toNat:Int)]:=by
 rw[show(k+1).toNat=k.toNat+1 by omega];unfold rT;rw[zw,jo];rfl
theorem TU (ws:AD) (k:Nat):(rT ws k).length=k:=by simp[rT]
theorem KT {ws:AD} {k:Int} (h0:0<=k):gD ws (k+1).toNat=gD ws k.toNat++turnsOf k (rdl ws k).length:=by
 obtain⟨k,rfl⟩: ∃m:Nat,k=m:=⟨k.toNat,G⟩;rw[show((k:Int)+1).toNat=k+1 by omega,cz];rfl
theorem xN (ws:AD): ∀k:Nat,k<=ws.length->(gD ws k).length=nZ ws k
 |0,_=>rfl
 |k+1,h=>by
  have ih:=xN ws k G;have:=kC (ws:=ws) (k:=k) G G;rw[show((k:Int)+1).toNat=k+1 by omega,cz] at this;show(gD ws k++turnsOf k (rdl ws k).length).length=_;rw[ah,ih,GR,this]
end Go.Pure
namespace Go.Pure
open Go Go.Eng
variable {H:Nat} {h:Int} {ws:AD} {bs rs:AH}
def tw (ws:AD) (t:Int × Int) (j:Nat):Int:=(rdl ws t.1).getD ((t.2.toNat+j)%(rdl ws t.1).length) 0
def TV (ws:AD) (t:Int × Int):Prop:=0<=t.1/\t.1<ws.length/\0<=t.2/\t.2<(rdl ws t.1).length
def LtH (H:Nat) (U V:Nat->Int):Prop:= ∃k,k<H/\(∀i,i<k->U i=V i)/\U k<V k
def EqH (H:Nat) (U V:Nat->Int):Prop:= ∀i,i<H->U i=V i
theorem EqH.symm {U V:Nat->Int} (h:EqH H U V):EqH H V U:=λi hi=>(h i hi).symm
theorem EqH.trans {U V W:Nat->Int} (h:EqH H U V) (h':EqH H V W):EqH H U W:=λi hi=>(h i hi).trans (h' i hi)
theorem LtH.not_eq {U V:Nat->Int} (h:LtH H U V): ¬EqH H U V:=λe=>by
 obtain⟨k,hk,_,hl⟩:=h;have:=e k hk;omega
theorem LtH.asymm {U V:Nat->Int} (h:LtH H U V): ¬LtH H V U:=by
 obtain⟨k,hk,h1,hl⟩:=h;rintro⟨m,hm,h2,wj⟩;by_cases a:k<m
 ·have:=h2 k a;omega
 ·by_cases b:m<k
  ·have:=h1 m b;omega
  ·have:k=m:=G
   subst this;omega
theorem LtH.trans {U V W:Nat->Int} (h:LtH H U V) (h':LtH H V W):LtH H U W:=by
 obtain⟨k,hk,h1,hl⟩:=h;obtain⟨m,hm,h2,wj⟩:=h';by_cases a:k<m
 ·exact⟨k,hk,λi hi=>(h1 i hi).trans (h2 i G),by rw[<-h2 k a];exact hl⟩
 ·by_cases b:m<k
  ·exact⟨m,hm,λi hi=>(h1 i G).trans (h2 i hi),by rw[h1 m b];exact wj⟩
  ·have:k=m:=G
   subst this;exact⟨k,hk,λi hi=>(h1 i hi).trans (h2 i hi),G⟩
theorem LtH.eq_left {U V W:Nat->Int} (h:EqH H U V) (h':LtH H V W):LtH H U W:=by
 obtain⟨k,hk,h1,hl⟩:=h';exact⟨k,hk,λi hi=>(h i G).trans (h1 i hi),by rw[h k hk];exact hl⟩
theorem LtH.eq_right {U V W:Nat->Int} (h:LtH H U V) (h':EqH H V W):LtH H U W:=by
 obtain⟨k,hk,h1,hl⟩:=h;exact⟨k,hk,λi hi=>(h1 i hi).trans (h' i G),by rw[<-h' k hk];exact hl⟩
theorem tri (H:Nat) (U V:Nat->Int):LtH H U V\/EqH H U V\/LtH H V U:=by
 induction H with
 |zero=>exact .inr (.inl λi hi=>G)
 | succ H ih=>
  rcases ih with⟨k,hk,h⟩|h|⟨k,hk,h⟩
  ·exact .inl ⟨k,G,h⟩
  ·rcases jd (U H) (V H) with a|a|a
   ·exact .inl ⟨H,G,h,a⟩
   ·refine .inr (.inl λi hi=> ?_);by_cases e:i=H
    ·rw[e];exact a
    ·exact h i G
   ·exact .inr (.inr ⟨H,G,λi hi=>(h i hi).symm,a⟩)
  ·exact .inr (.inr ⟨k,G,h⟩)
theorem aKu {h:Nat} {U V:Nat->Int}:EqH (H+h) U V↔EqH H U V/\EqH h (λi=>U (i+H)) (λi=>V (i+H)):=by
 constructor
 ·exact λe=>⟨λi hi=>e i G,λi hi=>e (i+H) G⟩
 ·rintro ⟨a,b⟩ i hi;by_cases c:i<H
  ·exact a i c
  ·have:=b (i-H) G;simpa [rf (show H<=i by omega)] using this
theorem bDg {h:Nat} {U V:Nat->Int}:LtH (H+h) U V↔LtH H U V\/EqH H U V/\LtH h (λi=>U (i+H)) (λi=>V (i+H)):=by
 constructor
 ·rintro ⟨k,hk,h1,hl⟩;by_cases c:k<H
  ·exact .inl ⟨k,c,h1,hl⟩
  ·refine .inr ⟨λi hi=>h1 i G,k-H,G,λi hi=>h1 (i+H) G,?_⟩;simpa [rf (show H<=k by omega)] using hl
 ·rintro (⟨k,hk,h1,hl⟩|⟨e,k,hk,h1,hl⟩)
  ·exact⟨k,G,h1,hl⟩
  ·refine ⟨k+H,G,λi hi=> ?_,hl⟩;by_cases c:i<H
   ·exact e i c
   ·have:=h1 (i-H) G;simpa [rf (show H<=i by omega)] using this
def RK (ws:AD) (bs:AH) (H:Nat) (rs:AH):Prop:= ∀t u,TV ws t->TV ws u->(rd rs (iH bs t)<rd rs (iH bs u)↔LtH H (tw ws t) (tw ws u))/\(rd rs (iH bs t)=rd rs (iH bs u)↔EqH H (tw ws t) (tw ws u))
def sh (ws:AD) (t:Int × Int) (h:Int):Int × Int:=(t.1,(t.2+h)%((rdl ws t.1).length:Int))
theorem aJj {t:Int × Int} (ht:TV ws t):TV ws (sh ws t h):=by
 obtain⟨a,b,c,d⟩:=ht;exact⟨a,b,ko _ G,ja _ G⟩
theorem XE (ws:AD) (bs rs:AH) (t:Int × Int) (h:Int):ahd ws bs rs t h=rd rs (iH bs (sh ws t h)):=rfl
theorem JJ {t:Int × Int} (ht:TV ws t):sh ws t 0=t:=by
 obtain⟨a,b,c,d⟩:=ht;unfold sh;rw[yl,pz c d]
theorem QU {t:Int × Int} (ht:TV ws t) (hh:0<=h) (j:Nat):tw ws (sh ws t h) j=tw ws t (j+h.toNat):=by
 obtain⟨a,b,c,d⟩:=ht;unfold tw sh;simp only;congr 1;obtain⟨x,hx⟩: ∃m:Nat,t.2=m:=⟨t.2.toNat,G⟩;obtain⟨y,rfl⟩: ∃m:Nat,h=m:=⟨h.toNat,G⟩;rw[hx,cz,cz,show((x:Int)+(y:Int))=((x+y:Nat):Int) by omega,<-Ao,cz,Nat.mod_add_mod];congr 1;omega
def gN (h:Int):Nat:=if h=0 then 1 else(2*h).toNat
def nG (h:Int):Nat:=(max 1 h).toNat
theorem aKg (hh:0<=h) (hr:RK ws bs (nG h) rs) {t u:Int × Int} (ht:TV ws t) (hu:TV ws u):
  (LtH (gN h) (tw ws t) (tw ws u)↔(ahd ws bs rs t 0<ahd ws bs rs u 0\/ahd ws bs rs t 0=ahd ws bs rs u 0/\ahd ws bs rs t h<ahd ws bs rs u h))/\
  (EqH (gN h) (tw ws t) (tw ws u)↔(ahd ws bs rs t 0=ahd ws bs rs u 0/\ahd ws bs rs t h=ahd ws bs rs u h)):=by
 have r0:=hr t u ht hu;have r1:=hr _ _ (aJj (h:=h) ht) (aJj (h:=h) hu);rw[XE,XE,XE,XE,JJ ht,JJ hu];by_cases h0:h=0
 ·subst h0;rw[JJ ht,JJ hu];have e:gN 0=nG 0:=cC
  rw[e,<-r0.1,<-r0.2];constructor<;>omega
 ·have e1:nG h=h.toNat:=by unfold nG;omega
  have e2:gN h=h.toNat+h.toNat:=by unfold gN;rw[bz h0];omega
  rw[e1] at r0 r1;rw[e2,bDg,aKu,<-r0.1,<-r0.2];have f1:(λi=>tw ws t (i+h.toNat))=tw ws (sh ws t h):=funext λi=>(QU ht hh i).symm;have f2:(λi=>tw ws u (i+h.toNat))=tw ws (sh ws u h):=funext λi=>(QU hu hh i).symm;rw[f1,f2,<-r1.1,<-r1.2];exact⟨Iff.rfl,Iff.rfl⟩
def ltI (t u:Int × Int):Prop:=t.1<u.1\/t.1=u.1/\t.2<u.2
def aUw (ws:AD) (H:Nat) (t u:Int × Int):Prop:=LtH H (tw ws t) (tw ws u)\/EqH H (tw ws t) (tw ws u)/\ltI t u
theorem aSj (hh:0<=h) (hr:RK ws bs (nG h) rs) {t u:Int × Int} (ht:TV ws t) (hu:TV ws u):aEq ws bs rs h t u<0↔aUw ws (gN h) t u:=by
 obtain⟨a,b⟩:=aKg hh hr ht hu;rw[BI];unfold aUw ltI;rw[a,b];omega
theorem aWb (hh:0<=h) (hr:RK ws bs (nG h) rs) {t u:Int × Int} (ht:TV ws t) (hu:TV ws u):IA ws bs rs h t u↔ ¬EqH (gN h) (tw ws t) (tw ws u):=by
 obtain⟨_,b⟩:=aKg hh hr ht hu;rw[b];unfold IA;omega
theorem vS: ∀ {a b:AH},a.Perm b->a.Pairwise (· <= ·)->b.Pairwise (· <= ·)->a=b
 |[],b,h,_,_=>(List.nil_perm.1 h).symm
 |x::a,[],h,_,_=>absurd h.symm cD
 | x::a,y::b,h,ha,hb=>by
  have h1:y<=x:=by
   rcases jm.1 (h.mem_iff.1 (.head _)) with e|e
   ·omega
   ·exact(jb.1 hb).1 x e
  have h2:x<=y:=by
   rcases jm.1 (h.mem_iff.2 (.head _)) with e|e
   ·omega
   ·exact(jb.1 ha).1 y e
  have e:x=y:=G
  subst e;rw[vS ((List.perm_cons x).1 h) (jb.1 ha).2 (jb.1 hb).2]
theorem LtH.mono {H M:Nat} {U V:Nat->Int} (h:LtH H U V) (hm:H<=M):LtH M U V:=by
 obtain⟨k,hk,r⟩:=h;exact⟨k,G,r⟩
theorem EqH.mono {H M:Nat} {U V:Nat->Int} (h:EqH M U V) (hm:H<=M):EqH H U V:=λi hi=>h i G
structure Sorted (ws:AD) (M:Nat) (l:AE):Prop where
 tv: ∀t∈l,TV ws t
 nodup:l.Nodup
 pw:l.Pairwise λx y=> ¬aUw ws M y x
theorem oN {l:AE} {j:Nat} (h:j<l.length):rdp l j=l[j]:=by
 simp[rdp,ak,av h]
theorem Sorted.le {ws:AD} {M:Nat} {l:AE} (s:Sorted ws M l) {i j:Nat} (oa:i<j) (hj:j<l.length): ¬LtH M (tw ws (rdp l j)) (tw ws (rdp l i)):=by
 have:=dn.1 s.pw i j G hj oa;rw[oN hj,oN G];exact λh=>this (.inl h)
theorem Sorted.eq_between {ws:AD} {M:Nat} {l:AE} (s:Sorted ws M l) {i m j:Nat} (h1:i<=m) (h2:m<=j) (hj:j<l.length) (he:EqH M (tw ws (rdp l i)) (tw ws (rdp l j))):EqH M (tw ws (rdp l i)) (tw ws (rdp l m)):=by
 rcases Nat.eq_or_lt_of_le h1 with rfl|h1
 ·exact λ_ _=>rfl
 rcases Nat.eq_or_lt_of_le h2 with rfl|h2
 ·exact he
 rcases tri M (tw ws (rdp l i)) (tw ws (rdp l m)) with a|a|a
 ·exact absurd (LtH.eq_left he.symm a) (s.le h2 hj)
 ·exact a
 ·exact absurd a (s.le h1 G)
section
variable {ws:AD} {bs rs:AH} {h:Int} {l:AE}
theorem OL (hh:0<=h) (hr:RK ws bs (nG h) rs) (s:Sorted ws (gN h) l) {j:Nat} (hj:j+1<l.length):
  (EqH (gN h) (tw ws (rdp l j)) (tw ws (rdp l (j+1:Nat)))/\iO ws bs rs h l (j+1)=iO ws bs rs h l j)\/(¬EqH (gN h) (tw ws (rdp l j)) (tw ws (rdp l (j+1:Nat)))/\iO ws bs rs h l (j+1)=iO ws bs rs h l j+1):=by
 have ht:=s.tv _ (kQ (l:=l) (i:=(j:Int)) G G);have hu:=s.tv _ (kQ (l:=l) (i:=((j+1:Nat):Int)) G G);have hk:=aWb hh hr ht hu;show _/\iO ws bs rs h l j+(if IA ws bs rs h (rdp l j) (rdp l (j+1:Nat)) then 1 else 0)=_\/_;by_cases e:EqH (gN h) (tw ws (rdp l j)) (tw ws (rdp l (j+1:Nat)))
 ·exact .inl ⟨e,by rw[bz (λk=>hk.1 k e),yl]⟩
 ·refine .inr ⟨e,?_⟩;show iO ws bs rs h l j+(if IA ws bs rs h (rdp l j) (rdp l (j+1:Nat)) then 1 else 0)=_;rw[df (hk.2 e)]
theorem OM (hh:0<=h) (hr:RK ws bs (nG h) rs) (s:Sorted ws (gN h) l) {i:Nat}: ∀d,i+d<l.length->iO ws bs rs h l i<=iO ws bs rs h l (i+d)/\(iO ws bs rs h l i=iO ws bs rs h l (i+d)↔EqH (gN h) (tw ws (rdp l i)) (tw ws (rdp l (i+d:Nat))))
 |0,_=>⟨lq _,⟨λ_ _ _=>rfl,λ_=>rfl⟩⟩
 | d+1,hd=>by
  obtain⟨a,b⟩:=OM (i:=i) hh hr s d G;rcases OL hh hr s (j:=i+d) hd with⟨e,c⟩|⟨e,c⟩
  ·have c':iO ws bs rs h l (i+(d+1))=iO ws bs rs h l (i+d):=c;rw[c'];refine⟨a,b.trans ⟨λx=>x.trans e,λx=>x.trans e.symm⟩⟩
  ·have c':iO ws bs rs h l (i+(d+1))=iO ws bs rs h l (i+d)+1:=c;rw[c'];refine⟨G,⟨λx=>G,λx=>absurd ?_ e⟩⟩;have y:=s.eq_between (m:=i+d) G G hd x;exact y.symm.trans x
theorem aZa (hh:0<=h) (hr:RK ws bs (nG h) rs) (s:Sorted ws (gN h) l) {i j:Nat} (hi:i<l.length) (hj:j<l.length):
  (iO ws bs rs h l i<iO ws bs rs h l j↔LtH (gN h) (tw ws (rdp l i)) (tw ws (rdp l j)))/\(iO ws bs rs h l i=iO ws bs rs h l j↔EqH (gN h) (tw ws (rdp l i)) (tw ws (rdp l j))):=by
 rcases vo i j with bc|rfl|bc
 ·obtain ⟨d,rfl⟩: ∃d,j=i+d:=⟨j-i,G⟩;obtain⟨a,b⟩:=OM (i:=i) hh hr s d hj;refine⟨?_,b⟩;constructor
  ·intro x;rcases tri (gN h) (tw ws (rdp l i)) (tw ws (rdp l (i+d:Nat))) with y|y|y
   ·exact y
   ·have:=b.2 y;omega
   ·exact absurd y (s.le bc hj)
  ·intro x;have:iO ws bs rs h l i≠iO ws bs rs h l (i+d):=λe=>x.not_eq (b.1 e);omega
 ·exact⟨⟨λx=>G,λx=>absurd x x.asymm⟩,⟨λ_ _ _=>rfl,λ_=>rfl⟩⟩
 ·obtain ⟨d,rfl⟩: ∃d,i=j+d:=⟨i-j,G⟩;obtain⟨a,b⟩:=OM (i:=j) hh hr s d hi;refine⟨⟨λx=>G,λx=>absurd x (s.le bc hi)⟩,⟨λx=>(b.1 x.symm).symm,λx=>(b.2 x.symm).symm⟩⟩
theorem bBp (hh:0<=h) (hr:RK ws bs (nG h) rs) (s:Sorted ws (gN h) l) (ju: ∀t,TV ws t->t∈l) {rk:AH} (m5: ∀j:Nat,j<l.length->rd rk (iH bs (rdp l j))=iO ws bs rs h l j):RK ws bs (gN h) rk:=by
 intro t u ht hu;obtain⟨i,hi,rfl⟩:=gz.1 (ju t ht);obtain⟨j,hj,rfl⟩:=gz.1 (ju u hu);rw[<-oN hi,<-oN hj,m5 i hi,m5 j hj];exact aZa hh hr s hi hj
structure Steps (bs rs:AH) (lo:AE) (w:Int):Prop where
 zero:0<lo.length->rd rs (iH bs (rdp lo (0:Nat)))=0
 step: ∀j:Nat,j+1<lo.length->rd rs (iH bs (rdp lo (j+1:Nat)))=rd rs (iH bs (rdp lo j))\/rd rs (iH bs (rdp lo (j+1:Nat)))=rd rs (iH bs (rdp lo j))+1
 last:0<lo.length->rd rs (iH bs (rdp lo ((lo.length-1:Nat):Int)))=w
theorem aEs (hh:0<=h) (hr:RK ws bs (nG h) rs) (s:Sorted ws (gN h) l) {rk:AH} (m5: ∀j:Nat,j<l.length->rd rk (iH bs (rdp l j))=iO ws bs rs h l j):Steps bs rk l (iO ws bs rs h l (l.length-1)):=by
 refine⟨λh0=>by rw[m5 0 h0];rfl,λj hj=> ?_,λh0=>m5 _ G⟩;rw[m5 _ hj,m5 j G];rcases OL hh hr s hj with⟨_,e⟩|⟨_,e⟩
 ·exact .inl e
 ·exact .inr e
theorem NA {f:Int × Int->Int} {l:AE} (h: ∀j:Nat,j+1<l.length->f (rdp l j)<=f (rdp l (j+1:Nat))):(l.map f).Pairwise (· <= ·):=by
 have mono: ∀d i:Nat,i+d<l.length->f (rdp l i)<=f (rdp l (i+d:Nat)):=by
  intro d
  induction d with
  |zero=>intro i _;exact lq _
  |succ d ih=>intro i hi;exact Im (ih i G) (h (i+d) G)
 refine iw.2 (dn.2 λi j hi hj oa=> ?_);have:=mono (j-i) i G;rw[show i+(j-i)=j by omega,oN hi,oN hj] at this;exact this
theorem bCt (h0:0<h) (hr:RK ws bs (nG h) rs) (s:Sorted ws (gN h) l) {lo:AE} {w:Int} (hp:l.Perm lo) (st:Steps bs rs lo w) (hw:iO ws bs rs h l (l.length-1)=w) {i j:Nat} (hi:i<l.length) (hj:j<l.length)
  (he:EqH (nG h) (tw ws (rdp l i)) (tw ws (rdp l j))):EqH (gN h) (tw ws (rdp l i)) (tw ws (rdp l j)):=by
 have hh:0<=h:=G
 have Qb:nG h<=gN h:=by unfold nG gN;rw[bz G];omega
 have hlen:=hp.length_eq
 let g:Int × Int->Int:=λt=>rd rs (iH bs t)
 have Qv: ∀j:Nat,j<l.length->TV ws (rdp l j):=λj hj=>s.tv _ (kQ G G)
 have ga:(l.map g).Pairwise (· <= ·):=NA λj hj=>by
  have hn:=s.le (i:=j) (j:=j+1) G hj;have:=(hr _ _ (Qv (j+1) hj) (Qv j G)).1;have Vt: ¬rd rs (iH bs (rdp l (j+1:Nat)))<rd rs (iH bs (rdp l j)):=λx=>hn ((this.1 x).mono Qb);show rd rs (iH bs (rdp l j))<=rd rs (iH bs (rdp l (j+1:Nat)));omega
 have gb:(lo.map g).Pairwise (· <= ·):=NA λj hj=>by
  show rd rs (iH bs (rdp lo j))<=rd rs (iH bs (rdp lo (j+1:Nat)));rcases st.step j hj with e|e<;>omega
 have j8:=vS (hp.map g) ga gb
 have gj: ∀j:Nat,j<l.length->g (rdp l j)=g (rdp lo j):=λj hj=>by
  have h2:j<lo.length:=G
  have:=bq (λq=>q[j]?) j8;simp only[tq,av hj,av h2,ky,lv] at this;rw[oN hj,oN h2];exact this
 have key: ∀d k:Nat,k+d<l.length->iO ws bs rs h l k-g (rdp l k)<=iO ws bs rs h l (k+d)-g (rdp l (k+d:Nat)):=by
  intro d
  induction d with
  |zero=>intro k _;exact lq _
  | succ d ih=>
   intro k hk;refine Im (ih k G) ?_;have e1:=gj (k+d) G;have e2:=gj (k+(d+1)) hk;have gs:=st.step (k+d) G;have hg:g (rdp lo (k+(d+1):Nat))=g (rdp lo (k+d:Nat))\/g (rdp lo (k+(d+1):Nat))=g (rdp lo (k+d:Nat))+1:=gs;rcases OL hh hr s (j:=k+d) hk with⟨e,c⟩|⟨e,c⟩
   ·have c':iO ws bs rs h l (k+(d+1))=iO ws bs rs h l (k+d):=c;have:=(hr _ _ (Qv (k+d) G) (Qv (k+d+1) hk)).2.2 (e.mono Qb);have this':g (rdp l (k+d:Nat))=g (rdp l (k+(d+1):Nat)):=this;omega
   ·have c':iO ws bs rs h l (k+(d+1))=iO ws bs rs h l (k+d)+1:=c;omega
 have Rj: ∀k:Nat,k<l.length->iO ws bs rs h l k=g (rdp l k):=by
  intro k hk;have fg:0<l.length:=G
  have a:=key k 0 G;have b:=key (l.length-1-k) k G;rw[nu] at a;rw[show k+(l.length-1-k)=l.length-1 by omega,hw] at b;have z:=gj 0 fg;have z':g (rdp lo (0:Nat))=0:=st.zero G;have y:=gj (l.length-1) G;have y':=st.last G;rw[<-hlen] at y';have y'':g (rdp lo ((l.length-1:Nat):Int))=w:=y';have c0:iO ws bs rs h l 0=0:=rfl;omega
 have e1:=(hr _ _ (Qv i hi) (Qv j hj)).2.2 he;refine(aZa hh hr s hi hj).2.1 ?_;rw[Rj i hi,Rj j hj];exact e1
end
def Lyn (f:Nat->Int) (p:Nat):Prop:=0<p/\ ∀r,0<r->r<p-> ∃d,r+d<p/\(∀e,e<d->f e=f (r+e))/\f d<f (r+d)
def xI (f:Nat->Int) (p j:Nat):Prop:= ∀i,i+p<j->f (i+p)=f i
theorem xI.mod {f:Nat->Int} {p j:Nat} (hp:0<p) (h:xI f p j): ∀i,i<j->f i=f (i%p):=by
 intro i
 induction i using Nat.strongRecOn with
 | ind i ih=>
  intro hi;rcases fo i p with a|a
  ·rw[lh a]
  ·have e:=h (i-p) G;rw[show i-p+p=i by omega] at e;rw[e,ih (i-p) G G];congr 1;rw[zm a]
theorem aYf {f:Nat->Int} {p j:Nat} (hL:Lyn f p) (qn:xI f p j) (Md:p<=j) (bc:f (j-p)<f j):Lyn f (j+1):=by
 obtain⟨hp,hL⟩:=hL;have hm:=qn.mod hp;refine⟨G,λr h0 hr=> ?_⟩;have hjp:(j-p)%p=j%p:=(zm Md).symm
 have hq: ∀e,r+e<j->r%p+e<p->f (r+e)=f (r%p+e):=by
  intro e h1 h2;rw[hm _ h1];congr 1;rw[Jq,lh (a:=e) G,lh h2]
 have hjm:f (j-p)=f (j%p):=by rw[hm (j-p) G,hjp]
 rcases ed (r%p) with hz|hz
 ·refine ⟨j-r,G,λe he=> ?_,?_⟩
  ·rw [hm e G,hm (r+e) G];congr 1;rw[Jq,hz,nu,Nat.mod_mod]
  ·rw [show r+(j-r)=j by omega]
   have e1:(j-r)%p=j%p:=by
    have:j=r+(j-r):=G
    conv=>rhs;rw[this,Jq,hz,nu,Nat.mod_mod]
   rcases fo 0 r with _|_
   ·rw[hm (j-r) G,e1,<-hjm];exact bc
   ·omega
 ·obtain ⟨d0,hd,j8,hl⟩:=hL (r%p) hz (ze _ hp);rcases fo (r+d0) j with a|a
  ·refine ⟨d0,G,λe he=> ?_,?_⟩
   ·rw[hq e G G];exact j8 e he
   ·rw[hq d0 a hd];exact hl
  ·refine ⟨j-r,G,λe he=> ?_,?_⟩
   ·rw[hq e G G];exact j8 e G
   ·rw [show r+(j-r)=j by omega]
    have e1:j%p=r%p+(j-r):=by
     have:j=r+(j-r):=G
     conv=>lhs;rw[this,Jq,lh (a:=j-r) G]
     exact lh G
    rw[e1] at hjm
    have:f (j-r)<=f (r%p+(j-r)):=by
     rcases fo (j-r) d0 with b|b
     ·exact Int.le_of_eq (j8 _ b)
     ·have:j-r=d0:=G
      rw[this];omega
    omega
theorem aQd {f:Nat->Int} {p j n:Nat} (hp:0<p) (qn:xI f p j) (Md:p<=j) (g9:j<n->f j<f (j-p)) {m:Nat} (Zn:p<m) (hm:m<=n): ¬Lyn f m:=by
 rintro⟨_,h⟩;obtain⟨d,hd,j8,hl⟩:=h p hp Zn;rcases fo (p+d) j with a|a
 ·have:=qn d G;rw[wu p d,this] at hl;omega
 ·have hs:=g9 G;rcases fo (j-p) d with b|b
  ·have:=j8 _ b;rw[show p+(j-p)=j by omega] at this;omega
  ·rw [show j-p=d by omega] at hs;rw[show p+d=j by omega] at hl;omega
def lt (s:AH) (i:Nat):Int:=s.getD i 0
theorem pY: ∀(u v:AH),v.length<u.length->(cmpL u v<0↔ ∃d,d<v.length/\(∀e,e<d->lt u e=lt v e)/\lt u d<lt v d)
 |[],v,h=>by simp at h
 |a::u,[],h=>by simp[cmpL]
 | a::u,b::v,h=>by
  have ih:=pY u v (by simpa using h);rw[cmpL];rcases jd a b with c|c|c
  ·rw [df c];exact⟨λ_=>⟨0,cD,λe he=>G,c⟩,λ_=>G⟩
  ·subst c;rw[bz G,bz G,ih];constructor
   ·rintro ⟨d,h1,h2,h3⟩;refine⟨d+1,by simpa using h1,λe he=> ?_,h3⟩;cases e with
    |zero=>rfl
    |succ e=>exact h2 e G
   ·rintro ⟨d,h1,h2,h3⟩;cases d with
    |zero=>exact absurd h3 (by simp[lt])
    |succ d=>exact⟨d,by simpa using h1,λe he=>h2 (e+1) G,h3⟩
  ·rw [bz G,df c];refine⟨λh=>G,?_⟩;rintro⟨d,h1,h2,h3⟩;cases d with
   |zero=>have:a<b:=h3;omega
   |succ d=>have:a=b:=h2 0 G;omega
theorem iY (s:AH) (a i:Nat):lt (s.drop a) i=lt s (a+i):=by simp[lt,ak]
theorem lt_take {s:AH} {a i:Nat} (h:i<a):lt (s.take a) i=lt s i:=by simp[lt,ak,h]
theorem NC {s:AH} {i:Int}:rd s i=lt s i.toNat:=rfl
def tO (s:AH):Bool:= !s.isEmpty && (List.range s.length).all λr=>Nat.beq r 0||decide (cmpL s (s.drop r)<0)
theorem pK (s:AH):tO s=true↔0<s.length/\ ∀r:Nat,0<r->r<s.length->cmpL s (s.drop r)<0:=by
 unfold tO;rw[pu,xe];have e:(!s.isEmpty)=true↔0<s.length:=by cases s<;>simp
 rw[e];refine and_congr_right λ_=>⟨λh r h0 hr=> ?_,λh r hr=> ?_⟩
 ·have:=h r (jq.2 hr);rw[zu,iv] at this;rcases this with a|a
  ·have:=yh a;omega
  ·exact a
 ·rw [zu,iv];rcases ed r with a|a
  ·left;subst a;rfl
  ·exact .inr (h r a (jq.1 hr))
theorem aDy (s:AH) (a p:Nat) (h:a+p<=s.length):tO ((s.drop a).take p)=true↔Lyn (λi=>lt s (a+i)) p:=by
 have hl:((s.drop a).take p).length=p:=by rw[ax,az];omega
 rw[pK,hl];unfold Lyn;refine and_congr_right λ_=>forall_congr' λr=>forall_congr' λh0=>forall_congr' λhr=> ?_;rw[pY _ _ (by rw[az,hl];omega),az,hl];constructor
 ·rintro ⟨d,h1,h2,h3⟩;refine⟨d,G,λe he=> ?_,?_⟩
  ·have:=h2 e he;rwa[iY,lt_take G,lt_take G,iY,iY] at this
  ·rwa[iY,lt_take G,lt_take G,iY,iY] at h3
 ·rintro ⟨d,h1,h2,h3⟩;refine⟨d,G,λe he=> ?_,?_⟩
  ·rw[iY,lt_take G,lt_take G,iY,iY];exact h2 e he
  ·rw[iY,lt_take G,lt_take G,iY,iY];exact h3
def iQ (s:AH):Nat->Nat
 |0=>0
 |n+1=>if tO (s.take (n+1)) then n+1 else iQ s n
theorem FT {s:AH} {p:Nat} (h:tO (s.take p)=true): ∀n,p<=n->(∀m,p<m->m<=n->tO (s.take m)=false)->iQ s n=p
 |0,hp,_=>by unfold iQ;omega
 | n+1,hp,hn=>by
  unfold iQ;rcases fo p (n+1) with a|a
  ·rw [hn (n+1) a (di _)];simp only[ww,xk];exact FT h n G λm h1 h2=>hn m h1 G
  ·have:p=n+1:=G
   subst this;rw[h,df rfl]
theorem aAz (s:AH) (h:0<s.length):tO (s.take 1)=true:=by
 cases s with
 |nil=>simp at h
 |cons a s=>rfl
theorem qX {s:AH} (h:0<s.length): ∀n,0<n->0<iQ s n
 | n+1,_=>by
  unfold iQ;split
  ·omega
  ·rename_i hh;cases n with
   |zero=>exact absurd (aAz s h) hh
   |succ n=>exact qX h (n+1) G
theorem SX (s:AH): ∀n,iQ s n<=n
 |0=>di _
 |n+1=>by
  unfold iQ;split
  ·omega
  ·have:=SX s n;omega
def QE:Nat->AH->AH
 |0,_=>[]
 |f+1,s=>if s.isEmpty then [] else(iQ s s.length:Int)::QE f (s.drop (iQ s s.length))
def dN (s:AH):AH:=QE s.length s
theorem TI: ∀(f g:Nat) (s:AH),s.length<=f->s.length<=g->QE f s=QE g s
 |0,g,s,h,_=>by
  have:s=[]:=Ar.1 G;subst this;cases g<;>rfl
 |f+1,0,s,_,h=>by
  have:s=[]:=Ar.1 G;subst this;rfl
 | f+1,g+1,s,h1,h2=>by
  unfold QE;cases s with
  |nil=>rfl
  |cons a s=>
   simp only[Dk,ww,xk];have:=qX (s:=a::s) cD (a::s).length cD;rw[TI f g _ (by rw[az];omega) (by rw[az];omega)]
theorem NN {s:AH} (h:s.length=0):dN s=[]:=by
 have:s=[]:=Ar.1 h;subst this;rfl
theorem FZ {s:AH} (h:0<s.length):dN s=(iQ s s.length:Int)::dN (s.drop (iQ s s.length)):=by
 unfold dN;cases s with
 |nil=>simp at h
 |cons a s=>
  rw[show(a::s).length=s.length+1 from rfl,QE];simp only[Dk,ww,xk];have:=qX (s:=a::s) cD (a::s).length cD;rw[show s.length+1=(a::s).length from rfl];congr 1;exact TI _ _ _ (by rw[az];simp only[dh] at*;omega) (di _)
theorem aQe {s:AH} {a p j:Nat} (hL:Lyn (λi=>lt s (a+i)) p) (qn:xI (λi=>lt s (a+i)) p j) (Md:p<=j) (Vj:a+j<=s.length) (g9:a+j<s.length->lt s (a+j)<lt s (a+j-p)):iQ (s.drop a) (s.drop a).length=p:=by
 have hp:=hL.1;refine FT ((aDy s a p G).2 hL) _ (by rw[az];omega) λm h1 h2=> ?_;rw[az] at h2;cases hb:tO ((s.drop a).take m) with
 |false=>rfl
 |true=>
  exact absurd ((aDy s a m G).1 hb) (aQd (f:=λi=>lt s (a+i)) (n:=s.length-a) hp qn Md (λh=>by rw[show a+(j-p)=a+j-p by omega];exact g9 G) h1 h2)
theorem Lyn.over {s:AH} {a p j:Nat} (hL:Lyn (λi=>lt s (a+i)) p) (qn:xI (λi=>lt s (a+i)) p j) (Md:p+p<=j):Lyn (λi=>lt s (a+p+i)) p:=by
 refine⟨hL.1,λr h0 hr=> ?_⟩;obtain⟨d,h1,h2,h3⟩:=hL.2 r h0 hr
 have e: ∀i,i<p->lt s (a+p+i)=lt s (a+i):=λi hi=>by
  have:=qn i G;rw[show a+p+i=a+(i+p) by omega];exact this
 refine⟨d,h1,λq hq=> ?_,?_⟩
 ·simp only at h2 ⊢;rw[e q G,e (r+q) G];exact h2 q hq
 ·simp only at h3 ⊢;rw[e d G,e (r+d) G];exact h3
theorem xI.over {s:AH} {a p j:Nat} (qn:xI (λi=>lt s (a+i)) p j) (Md:p<=j):xI (λi=>lt s (a+p+i)) p (j-p):=by
 intro i hi;have:=qn (i+p) G;simp only at this ⊢;rw[show a+p+(i+p)=a+(i+p+p) by omega,show a+p+i=a+(i+p) by omega];exact this
theorem bDc (f:Nat->Int):Lyn f 1:=⟨G,λr h0 hr=>G⟩
theorem aUn (f:Nat->Int):xI f 1 1:=λi hi=>G
theorem aOd (f:Nat->Int) (p:Nat):xI f p p:=λi hi=>G
theorem xI.snoc {f:Nat->Int} {p j:Nat} (h:xI f p j) (Md:p<=j) (he:f j=f (j-p)):xI f p (j+1):=by
 intro i hi;rcases fo (i+p) j with a|a
 ·exact h i a
 ·rw[show i+p=j by omega,he];congr 1;omega
section
variable {s:AH} {a i j b:Int}
def tQ (s:AH) (a p:Int):Prop:=Lyn (λe=>lt s (a.toNat+e)) p.toNat
def tK (s:AH) (a p n:Int):Prop:=xI (λe=>lt s (a.toNat+e)) p.toNat n.toNat
theorem IE:tQ s a (a+1-a)/\tK s a (a+1-a) (a+1-a):=by
 unfold tQ tK;rw[show(a+1-a).toNat=1 by omega];exact⟨bDc _,aUn _⟩
theorem aCl (h0:0<=a) (v8:a<=i) (oa:i<j) (hL:tQ s a (j-i)) (hP:tK s a (j-i) (j-a)) (bc:rd s i<rd s j):tQ s a (j+1-a)/\tK s a (j+1-a) (j+1-a):=by
 refine⟨?_,aOd _ _⟩;unfold tQ
 have:=aYf hL hP G (by
  show lt s (a.toNat+((j-a).toNat-(j-i).toNat))<lt s (a.toNat+(j-a).toNat);rw[show a.toNat+((j-a).toNat-(j-i).toNat)=i.toNat by omega,show a.toNat+(j-a).toNat=j.toNat by omega]
  exact bc)
 rwa[show(j-a).toNat+1=(j+1-a).toNat by omega] at this
theorem aCm (h0:0<=a) (v8:a<=i) (oa:i<j) (hL:tQ s a (j-i)) (hP:tK s a (j-i) (j-a)) (he:rd s i<=rd s j) (hn: ¬rd s i<rd s j):tQ s a (j+1-(i+1))/\tK s a (j+1-(i+1)) (j+1-a):=by
 rw[show j+1-(i+1)=j-i by omega];refine⟨hL,?_⟩;unfold tK;rw[show(j+1-a).toNat=(j-a).toNat+1 by omega];refine xI.snoc hP G ?_;show lt s (a.toNat+(j-a).toNat)=lt s (a.toNat+((j-a).toNat-(j-i).toNat));rw[show a.toNat+((j-a).toNat-(j-i).toNat)=i.toNat by omega,show a.toNat+(j-a).toNat=j.toNat by omega];have:rd s i=rd s j:=G
 exact this.symm
theorem aQc (h0:0<=b) (tj:b<=i) (oa:i<j) (hj:j<=s.length) (hL:tQ s b (j-i)) (hP:tK s b (j-i) (j-b)) (g9: ¬(j<s.length/\rd s i<=rd s j)):dN (s.drop b.toNat)=(j-i)::dN (s.drop (b+(j-i)).toNat):=by
 have hlen:=aQe hL hP G G λh=>by
  rw[show b.toNat+(j-b).toNat=j.toNat by omega,show j.toNat-(j-i).toNat=i.toNat by omega];have: ¬rd s i<=rd s j:=λhh=>g9 ⟨G,hh⟩;have:rd s j<rd s i:=G
  exact this
 have fg:0<(s.drop b.toNat).length:=by rw[az];omega
 rw[FZ fg,hlen,Gg];rw[show((j-i).toNat:Int)=j-i by omega,show b.toNat+(j-i).toNat=(b+(j-i)).toNat by omega]
theorem aGy (h0:0<=b) (oa:i<j) (hL:tQ s b (j-i)) (hP:tK s b (j-i) (j-b)) (h:b+(j-i)<=i):tQ s (b+(j-i)) (j-i)/\tK s (b+(j-i)) (j-i) (j-(b+(j-i))):=by
 unfold tQ tK;rw[show(b+(j-i)).toNat=b.toNat+(j-i).toNat by omega,show(j-(b+(j-i))).toNat=(j-b).toNat-(j-i).toNat by omega];exact⟨Lyn.over hL hP G,xI.over hP G⟩
end
theorem aAy {s:AH} {n:Int} (h1:1<=n) (hn:n<=s.length) (h: ¬tO (s.take n.toNat)=true):1<=n-1/\iQ s (n-1).toNat=iQ s n.toNat:=by
 obtain⟨m,rfl⟩: ∃m:Nat,n=m+1:=⟨(n-1).toNat,G⟩;have e:((m:Int)+1).toNat=m+1:=G
 rw[e] at h;rw[e,show((m:Int)+1-1).toNat=m by omega,iQ,bz h];refine⟨?_,rfl⟩;rcases ed m with z|z
 ·subst z;exact absurd (aAz s G) h
 ·omega
theorem aGb {s:AH} {n:Int} (h1:1<=n) (h:tO (s.take n.toNat)=true):(iQ s n.toNat:Int)=n:=by
 obtain⟨m,rfl⟩: ∃m:Nat,n=m+1:=⟨(n-1).toNat,G⟩;have e:((m:Int)+1).toNat=m+1:=G
 rw[e] at h;rw[e,iQ,df h];omega
variable {s:AH} {i d h n b k:Nat}
theorem aVm {M:Nat} {U V:Nat->Int}:LtH (M+1) U V↔U 0<V 0\/U 0=V 0/\LtH M (λi=>U (i+1)) (λi=>V (i+1)):=by
 constructor
 ·rintro ⟨k,hk,h1,h2⟩;cases k with
  |zero=>exact .inl h2
  |succ k=>exact .inr ⟨h1 0 G,k,G,λi hi=>h1 (i+1) G,h2⟩
 ·rintro (h|⟨e,k,hk,h1,h2⟩)
  ·exact⟨0,G,λi hi=>G,h⟩
  ·refine ⟨k+1,G,λi hi=> ?_,h2⟩;cases i with
   |zero=>exact e
   |succ i=>exact h1 i G
def pad (m:Int) (l:AH) (d:Nat):Int:=if d<l.length then lt l d-m+1 else 0
theorem aDf (m:Int): ∀(a b:AH) (N:Nat),a.length<=N->b.length<=N->(∀x∈a,m<=x)->(∀x∈b,m<=x)->(cmpL a b<0↔LtH N (pad m a) (pad m b))
 |[],[],N,_,_,_,_=>by
  simp only[cmpL];refine⟨λh=>G,?_⟩;rintro⟨k,_,_,h⟩;simp[pad] at h
 |[],b::v,N,_,hb,_,mb=>by
  simp only[cmpL];have:=mb b cD;refine⟨λ_=>⟨0,by simp only[dh] at hb;omega,λi hi=>G,?_⟩,λ_=>G⟩;have e1:pad m [] 0=0:=rfl;have e2:pad m (b::v) 0=b-m+1:=by unfold pad;rw[df cD];rfl
  rw[e1,e2];omega
 | a::u,[],N,_,_,ma,_=>by
  simp only[cmpL];refine⟨λh=>G,?_⟩;rintro⟨k,_,_,h⟩;exfalso;have e1:pad m [] k=0:=by unfold pad;rw[bz cD]
  rw[e1] at h;unfold pad at h;split at h
  ·rename_i hk
   have:m<=lt (a::u) k:=ma _ (by
    unfold lt;rw[ak,av hk]
    exact mf _)
   omega
  ·omega
 |a::u,b::v,0,h,_,_,_=>by simp at h
 | a::u,b::v,N+1,ha,hb,ma,mb=>by
  have ih:=aDf m u v N (by simpa using ha) (by simpa using hb) (λx hx=>ma x (fe _ hx)) (λx hx=>mb x (fe _ hx));have e0: ∀(x:Int) (xs:AH),pad m (x::xs) 0=x-m+1:=λx xs=>by unfold pad;rw[df cD];rfl
  have e1: ∀(x:Int) (xs:AH),(λi=>pad m (x::xs) (i+1))=pad m xs:=λx xs=>by
   funext i;unfold pad;by_cases h:i<xs.length
   ·rw[df (by simpa using h),df h];rfl
   ·rw[bz (by simpa using h),bz h]
  rw[cmpL,aVm,e0,e0,e1,e1];rcases jd a b with c|c|c
  ·rw [df c];exact⟨λ_=> .inl G,λ_=>G⟩
  ·subst c;rw[bz G,bz G,ih];exact⟨λh=> .inr ⟨rfl,h⟩,λh=>h.elim (λh=>G) λh=>h.2⟩
  ·rw [bz G,df c];exact⟨λh=>G,λh=>h.elim (λh=>G) λh=>G⟩
def lo (s:AH):Int:=s.foldr min 0
theorem aVp: ∀ {s:AH} {x:Int},x∈s->lo s<=x
 | a::s,x,h=>by
  unfold lo;rw[List.foldr_cons];rcases jm.1 h with rfl|h
  ·exact Int.min_le_left _ _
  ·have:=aVp h;unfold lo at this;omega
def eu (s:AH) (i d:Nat):Int:=if i+d<s.length then lt s (i+d)-lo s+1 else 0
theorem bIt (h:i<s.length):lt s i∈s:=by
 unfold lt;rw[ak,av h];exact mf _
theorem sF (h:i+d<s.length):0<eu s i d:=by
 have:=aVp (bIt h);unfold eu;rw[df h];omega
theorem jH (h:s.length<=i+d):eu s i d=0:=by unfold eu;rw[bz G]
theorem wY (s:AH) (i b d:Nat):eu s (i+b) d=eu s i (b+d):=by unfold eu;rw[nk]
def sZ (s:AH) (i h:Nat):AH:=(s.drop i).take h
theorem aCs (hd:d<h):pad (lo s) (sZ s i h) d=eu s i d:=by
 unfold pad eu sZ;rw[ax,az];by_cases c:i+d<s.length
 ·rw[df G,df c,lt_take hd,iY]
 ·rw[bz G,bz c]
theorem aOq {H:Nat} {U U' V V':Nat->Int} (h1: ∀i,i<H->U i=U' i) (h2: ∀i,i<H->V i=V' i):LtH H U V↔LtH H U' V':=by
 constructor
 ·rintro ⟨k,hk,a,b⟩;exact⟨k,hk,λi hi=>by rw[<-h1 i G,<-h2 i G];exact a i hi,by rw[<-h1 k hk,<-h2 k hk];exact b⟩
 ·rintro ⟨k,hk,a,b⟩;exact⟨k,hk,λi hi=>by rw[h1 i G,h2 i G];exact a i hi,by rw[h1 k hk,h2 k hk];exact b⟩
theorem xB (s:AH) (i k h:Nat):cmpL (sZ s i h) (sZ s k h)<0↔LtH h (eu s i) (eu s k):=by
 have hm: ∀j,∀x∈sZ s j h,lo s<=x:=λj x hx=>aVp (pq (mg hx));rw[aDf (lo s) _ _ h (by unfold sZ;rw[ax];omega) (by unfold sZ;rw[ax];omega) (hm i) (hm k)];exact aOq (λd hd=>aCs hd) λd hd=>aCs hd
theorem bDd {U V:Nat->Int} (hb:b<=n):LtH (n+b) U V↔LtH n U V\/EqH n U V/\LtH n (λi=>U (b+i)) (λi=>V (b+i)):=by
 constructor
 ·rintro ⟨k,hk,h1,h2⟩;rcases fo k n with a|a
  ·exact .inl ⟨k,a,h1,h2⟩
  ·refine .inr ⟨λi hi=>h1 i G,k-b,G,λi hi=>h1 (b+i) G,?_⟩;show U (b+(k-b))<V (b+(k-b));rw[show b+(k-b)=k by omega];exact h2
 ·rintro (h|⟨e,k,hk,h1,h2⟩)
  ·exact h.mono G
  ·refine ⟨b+k,G,λi hi=> ?_,h2⟩;rcases fo i n with a|a
   ·exact e i a
   ·have:=h1 (i-b) G;simp only at this;rwa[show b+(i-b)=i by omega] at this
theorem bDx {U V:Nat->Int} (hb:b<=n):EqH (n+b) U V↔EqH n U V/\EqH n (λi=>U (b+i)) (λi=>V (b+i)):=by
 constructor
 ·exact λe=>⟨λi hi=>e i G,λi hi=>e (b+i) G⟩
 ·rintro ⟨e,f⟩ i hi;rcases fo i n with a|a
  ·exact e i a
  ·have:=f (i-b) G;simp only at this;rwa[show b+(i-b)=i by omega] at this
def rkS (s:AH) (h i:Nat):Nat:=(List.range s.length).countP λk=>decide (cmpL (sZ s k h) (sZ s i h)<0)
theorem sH {α:Type} {p q:α->Bool}: ∀ {l:List α},(∀x∈l,p x=true->q x=true)->(∃x∈l,p x=false/\q x=true)->l.countP p<l.countP q
 |[],_,h=>by obtain⟨x,hx,_⟩:=h;cases hx
 | a::l,h,hx=>by
  have hl:l.countP p<=l.countP q:=Dy λx hx=>h x (fe _ hx);obtain⟨x,hm,h1,h2⟩:=hx;rw[List.countP_cons,List.countP_cons];rcases jm.1 hm with rfl|hm
  ·rw[h1,h2];simp;omega
  ·have ih:=sH (λy hy=>h y (fe _ hy)) ⟨x,hm,h1,h2⟩;have ha:=h a cD;cases hp:p a with
   |false=>cases q a<;>simp<;>omega
   |true=>rw[ha hp];simp;omega
theorem vX (hi:i<s.length):rkS s h i<rkS s h k↔LtH h (eu s i) (eu s k):=by
 constructor
 ·intro hr;rcases tri h (eu s i) (eu s k) with a|a|a
  ·exact a
  ·exfalso
   have:rkS s h k<=rkS s h i:=Dy λx _ hx=>by
    rw[iv,xB] at hx ⊢;exact hx.eq_right a.symm
   omega
  ·exfalso
   have:rkS s h k<=rkS s h i:=Dy λx _ hx=>by
    rw[iv,xB] at hx ⊢;exact hx.trans a
   omega
 ·intro hl;refine sH (λx _ hx=> ?_) ⟨i,jq.2 hi,?_,?_⟩
  ·rw [iv,xB] at hx ⊢;exact hx.trans hl
  ·rw [sj,xB];exact λh=>h.asymm h
  ·rw [iv,xB];exact hl
theorem aJq (hi:i<s.length) (hk:k<s.length):rkS s h i=rkS s h k↔EqH h (eu s i) (eu s k):=by
 constructor
 ·intro he;rcases tri h (eu s i) (eu s k) with a|a|a
  ·have:=(vX hi).2 a;omega
  ·exact a
  ·have:=(vX hk).2 a;omega
 ·intro he;rcases vo (rkS s h i) (rkS s h k) with a|a|a
  ·exact absurd he ((vX hi).1 a).not_eq
  ·exact a
  ·exact absurd he.symm ((vX hk).1 a).not_eq
def sN (s:AH) (n i:Nat):Nat:=if i<s.length then rkS s n i+1 else 0
theorem BR (hn:0<n):sN s n i<sN s n k↔LtH n (eu s i) (eu s k):=by
 unfold sN;by_cases hi:i<s.length
 ·by_cases hk:k<s.length
  ·rw[df hi,df hk,<-vX hi];omega
  ·rw [df hi,bz hk];refine⟨λh=>G,?_⟩;rintro⟨d,_,_,h2⟩;rw[jH (s:=s) (i:=k) G] at h2;rcases fo (i+d) s.length with a|a
   ·have:=sF a;omega
   ·rw[jH a] at h2;omega
 ·by_cases hk:k<s.length
  ·rw [bz hi,df hk];refine⟨λ_=>⟨0,hn,λd hd=>G,?_⟩,λ_=>G⟩;rw[jH G];exact sF G
  ·rw [bz hi,bz hk];refine⟨λh=>G,?_⟩;rintro⟨d,_,_,h2⟩;rw[jH (s:=s) (i:=k) G,jH G] at h2;omega
theorem bBr (hn:0<n):sN s n i=sN s n k↔EqH n (eu s i) (eu s k):=by
 constructor
 ·intro he;rcases tri n (eu s i) (eu s k) with a|a|a
  ·have:=(BR hn).2 a;omega
  ·exact a
  ·have:=(BR hn).2 a;omega
 ·intro he;rcases vo (sN s n i) (sN s n k) with a|a|a
  ·exact absurd he ((BR hn).1 a).not_eq
  ·exact a
  ·exact absurd he.symm ((BR hn).1 a).not_eq
theorem aFe (hn:0<n) (hb:b<=n) (hi:i<s.length) (hk:k<s.length):rkS s (n+b) i<rkS s (n+b) k↔rkS s n i<rkS s n k\/rkS s n i=rkS s n k/\sN s n (i+b)<sN s n (k+b):=by
 rw[vX hi,bDd hb,vX hi,aJq hi hk,BR hn];have e: ∀j,eu s (j+b)=λd=>eu s j (b+d):=λj=>funext λd=>wY s j b d;rw[e,e]
theorem LH (hn:0<n) (hb:b<=n) (hi:i<s.length) (hk:k<s.length):rkS s (n+b) i=rkS s (n+b) k↔rkS s n i=rkS s n k/\sN s n (i+b)=sN s n (k+b):=by
 rw[aJq hi hk,bDx hb,aJq hi hk,bBr hn];have e: ∀j,eu s (j+b)=λd=>eu s j (b+d):=λj=>funext λd=>wY s j b d;rw[e,e]
theorem bHu {i:Nat} {o:List Nat} (hp:o.Perm (List.range s.length)) (hs:o.Pairwise λx y=>rkS s h x<=rkS s h y) (hi:i<o.length) (Ph: ∀(hz:0<i),rkS s h (o[i-1]' G)≠rkS s h o[i]):rkS s h o[i]=i:=by
 have hm: ∀x∈o,x<s.length:=λx hx=>jq.1 (hp.subset hx)
 have e:rkS s h o[i]=o.countP λk=>decide (rkS s h k<rkS s h o[i]):=by
  have e1:rkS s h o[i]=o.countP λk=>decide (cmpL (sZ s k h) (sZ s o[i] h)<0):=by
   unfold rkS;rw[<-hp.countP_eq]
  rw[e1];refine Gx λx hx=> ?_;rw[iv,iv,xB,<-vX (hm x hx),<-e1]
 rw[e];have Zu:o=o.take i++o.drop i:=(gu i o).symm
 have h1:(o.take i).countP (λk=>decide (rkS s h k<rkS s h o[i]))=i:=by
  have:(o.take i).length=i:=by rw[ax];omega
  conv=>rhs;rw[<-this]
  rw[List.countP_eq_length];intro x hx;rw[iv];obtain⟨j,hj,rfl⟩:=gz.1 hx;rw[ax] at hj;rw[yu];have hz:0<i:=G
  have hprev:=Ph hz;have pv:rkS s h (o[i-1]' G)<=rkS s h o[i]:=dn.1 hs (i-1) i G hi G;rcases fo j (i-1) with a|a
  ·have:=dn.1 hs j (i-1) G G a;omega
  ·have:j=i-1:=G
   subst this;omega
 have h2:(o.drop i).countP (λk=>decide (rkS s h k<rkS s h o[i]))=0:=by
  rw[Ca];intro x hx;rw[iv];obtain⟨j,hj,rfl⟩:=gz.1 hx;rw[az] at hj;rw[Bh];rcases ed j with z|z
  ·subst z;simp
  ·have:=dn.1 hs i (i+j) hi G G;omega
 have h3:(o.take i++o.drop i).countP (λk=>decide (rkS s h k<rkS s h o[i]))=i:=by rw[List.countP_append,h1,h2,qo]
 rwa[gu] at h3
theorem wP {w:Int} {j:Nat} {t:Int × Int}:t∈turnsOf w j↔t.1=w/\0<=t.2/\t.2<j:=by
 unfold turnsOf;rw[iy];constructor
 ·rintro ⟨i,hi,rfl⟩;rw[jq] at hi;exact⟨rfl,by simp only;omega,by simp only;omega⟩
 ·rintro ⟨rfl,h1,h2⟩;refine⟨t.2.toNat,jq.2 G,?_⟩;rw[qf h1]
theorem xZ {ws:AD} {t:Int × Int}: ∀ {k:Nat},t∈gD ws k↔(0<=t.1/\t.1<k)/\0<=t.2/\t.2<(rdl ws t.1).length
 |0=>by
  constructor
  ·intro h;cases h
  ·rintro⟨h,_⟩;omega
 | k+1=>by
  show t∈gD ws k++turnsOf k (rdl ws k).length↔_;rw[gp,xZ,wP];constructor
  ·rintro (⟨h1,h2⟩|⟨h1,h2,h3⟩)
   ·exact⟨⟨h1.1,G⟩,h2⟩
   ·rw[h1];exact⟨⟨G,G⟩,h2,h3⟩
  ·rintro ⟨h1,h2,h3⟩;by_cases e:t.1=k
   ·exact .inr ⟨e,h2,by rw[e] at h3;exact h3⟩
   ·exact .inl ⟨⟨h1.1,G⟩,h2,h3⟩
theorem yA {ws:AD} {t:Int × Int}:t∈gD ws ws.length↔TV ws t:=by
 rw[xZ];unfold TV;constructor
 ·rintro⟨⟨a,b⟩,c,d⟩;exact⟨a,b,c,d⟩
 ·rintro⟨a,b,c,d⟩;exact⟨⟨a,b⟩,c,d⟩
theorem PO (w:Int) (j:Nat):(turnsOf w j).Nodup:=by
 unfold turnsOf;refine iw.2 ((xh (n:=j)).imp λ{a b} h e=>h ?_);simp only[yt,Ag] at e;omega
theorem vQ (ws:AD): ∀k,(gD ws k).Nodup
 |0=> .nil
 |k+1=>by
  refine xz.2 ⟨vQ ws k,PO _ _,λa ha b hb e=> ?_⟩;subst e;have h1:=(xZ.1 ha).1;have h2:=(wP.1 hb).1;omega
theorem SI {ws:AD} {i j:Nat} (h:i<=j):nZ ws i<=nZ ws j:=by
 unfold nZ;obtain⟨d,rfl⟩: ∃d,j=i+d:=⟨j-i,G⟩;rw[Hw,qg,ah];omega
theorem ZV {ws:AD} {k:Nat} {i:Int} (h0:0<=i) (h:i<k):rd (rT ws k) i=nZ ws i.toNat:=by
 have hi:i.toNat<k:=G
 simp[rd,rT,ak,hi]
theorem bCa {ws:AD} {w j:Int} (h0:0<=w) (h1:w<ws.length) (h2:0<=j) (h3:j<(rdl ws w).length):rd ws.flatten (nZ ws w.toNat+j)=rd (rdl ws w) j:=by
 have e:ws.flatten=(ws.take w.toNat).flatten++(ws.drop w.toNat).flatten:=by
  rw[<-qg,gu]
 rw[e,aUb h0 h1,sw];unfold rd;rw[ak,ig (by unfold nZ;omega),ji (by unfold nZ;omega),ak];congr 2;unfold nZ;omega
theorem VR {ws:AD} {t:Int × Int} (ht:TV ws t):iH (rT ws ws.length) t=nZ ws t.1.toNat+t.2:=by
 unfold iH;rw[ZV ht.1 ht.2.1]
theorem aUk {ws:AD} {t u:Int × Int} (ht:TV ws t) (hu:TV ws u) (h:iH (rT ws ws.length) t=iH (rT ws ws.length) u):t=u:=by
 rw[VR ht,VR hu] at h;obtain⟨a1,a2,a3,a4⟩:=ht;obtain⟨b1,b2,b3,b4⟩:=hu;have o1:=kC a1 a2;have o2:=kC b1 b2
 have e:t.1=u.1:=by
  rcases jd t.1 u.1 with x|x|x
  ·have:=SI (ws:=ws) (show(t.1+1).toNat<=u.1.toNat by omega);omega
  ·exact x
  ·have:=SI (ws:=ws) (show(u.1+1).toNat<=t.1.toNat by omega);omega
 rw[e] at h;exact Prod.ext e G
theorem bEw {ws:AD} (hN:ws.flatten.length<=1000000) {t:Int × Int} (ht:TV ws t):TOk ws (rT ws ws.length) ws.flatten.length t:=by
 obtain⟨a1,a2,a3,a4⟩:=ht;have o1:=kC a1 a2;have o2:=JP ws (t.1+1).toNat;have e:=ZV (ws:=ws) a1 a2;have hb:=TU ws ws.length;refine⟨⟨a1,a2,G⟩,⟨a3,a4,G⟩,G,?_⟩;rw[e];omega
theorem aTh (ws:AD):RK ws (rT ws ws.length) 1 ws.flatten:=by
 intro t u ht hu
 have one: ∀t,TV ws t->rd ws.flatten (iH (rT ws ws.length) t)=tw ws t 0:=by
  intro t ht;rw[VR ht,bCa ht.1 ht.2.1 ht.2.2.1 ht.2.2.2];obtain⟨a1,a2,a3,a4⟩:=ht;unfold tw rd;rw[qo,lh G]
 rw[one t ht,one u hu];constructor
 ·constructor
  ·exact λh=>⟨0,G,λi hi=>G,h⟩
  ·rintro ⟨k,hk,_,h⟩;obtain rfl:k=0:=G
   exact h
 ·constructor
  ·intro h i hi;obtain rfl:i=0:=G
   exact h
  ·exact λh=>h 0 G
theorem aSd {ws:AD} (t:Int × Int):Per (tw ws t) (rdl ws t.1).length:=by
 intro i;unfold tw;rw[<-nk,Nat.add_mod_right]
def jF (ws:AD) (t u:Int × Int):Prop:=Lt (tw ws t) (tw ws u)\/(∀i,tw ws t i=tw ws u i)/\ltI t u
theorem aUt {ws:AD} {M:Nat} {t u:Int × Int} (hM:EqH M (tw ws t) (tw ws u)-> ∀i,tw ws t i=tw ws u i):aUw ws M t u↔jF ws t u:=by
 unfold aUw jF;constructor
 ·rintro (⟨k,_,h1,h2⟩|⟨e,h⟩)
  ·exact .inl ⟨k,h1,h2⟩
  ·exact .inr ⟨hM e,h⟩
 ·rintro (⟨k,h1,h2⟩|⟨e,h⟩)
  ·rcases tri M (tw ws t) (tw ws u) with a|a|⟨m,_,g1,g2⟩
   ·exact .inl a
   ·have:=hM a k;omega
   ·exfalso;by_cases x:k<m
    ·have:=g1 k x;omega
    ·by_cases y:m<k
     ·have:=h1 m y;omega
     ·have:k=m:=G
      subst this;omega
  ·exact .inr ⟨λi _=>e i,h⟩
theorem aCb {ws:AD} {M:Nat} {t u:Int × Int} (ht:TV ws t) (hu:TV ws u) (hM:(rdl ws t.1).length+(rdl ws u.1).length<=M) (h:EqH M (tw ws t) (tw ws u)): ∀i,tw ws t i=tw ws u i:=by
 obtain⟨a1,a2,a3,a4⟩:=ht;obtain⟨b1,b2,b3,b4⟩:=hu;exact agree G G (aSd t) (aSd u) λi hi=>h i G
theorem aCa {ws:AD} {h:Int} (h0:0<h) (gs: ∀t u,TV ws t->TV ws u->EqH (nG h) (tw ws t) (tw ws u)->EqH (gN h) (tw ws t) (tw ws u)) {t u:Int × Int} (ht:TV ws t) (hu:TV ws u) (he:EqH (nG h) (tw ws t) (tw ws u)): ∀i,tw ws t i=tw ws u i:=by
 have e1:nG h=h.toNat:=by unfold nG;omega
 have e2:gN h=h.toNat+h.toNat:=by unfold gN;rw[bz G];omega
 rw[e1,e2] at gs;rw[e1] at he;intro i
 induction i using Nat.strongRecOn generalizing t u with
 | _ i ih=>
  by_cases hi:i<h.toNat
  ·exact he i hi
  ·have h2:=(aKu.1 (gs t u ht hu he)).2;have f1:(λi=>tw ws t (i+h.toNat))=tw ws (sh ws t h):=funext λi=>(QU ht G i).symm;have f2:(λi=>tw ws u (i+h.toNat))=tw ws (sh ws u h):=funext λi=>(QU hu G i).symm;rw[f1,f2] at h2;have:=ih (i-h.toNat) G (aJj ht) (aJj hu) h2;rw[QU ht G,QU hu G,rf G] at this;exact this
theorem dH {l:AH} {j:Int} (h0:0<=j) (h:j<l.length):l.take (j+1).toNat=l.take j.toNat++[rd l j]:=by
 have hl:j.toNat<l.length:=G
 rw[show(j+1).toNat=j.toNat+1 by omega,uf,av hl];simp[rd,ak,av hl]
theorem bDf (t u:Int × Int):ltI t u\/t=u\/ltI u t:=by
 unfold ltI;rcases jd t.1 u.1 with a|a|a
 ·exact .inl (.inl a)
 ·rcases jd t.2 u.2 with b|b|b
  ·exact .inl (.inr ⟨a,b⟩)
  ·exact .inr (.inl (Prod.ext a b))
  ·exact .inr (.inr (.inr ⟨a.symm,b⟩))
 ·exact .inr (.inr (.inl a))
theorem Sorted.toO {ws:AD} {M:Nat} {l:AE} (s:Sorted ws M l) (hM: ∀t u,TV ws t->TV ws u->EqH M (tw ws t) (tw ws u)-> ∀i,tw ws t i=tw ws u i):l.Pairwise (jF ws):=by
 refine(s.pw.and s.nodup).imp_of_mem λ{x y} hx hy h=> ?_;have Qs:=aUt (hM x y (s.tv x hx) (s.tv y hy));rw[<-Qs];rcases tri M (tw ws x) (tw ws y) with a|a|a
 ·exact .inl a
 ·rcases bDf x y with b|b|b
  ·exact .inr ⟨a,b⟩
  ·exact absurd b h.2
  ·exact absurd (.inr ⟨a.symm,b⟩) h.1
 ·exact absurd (.inl a) h.1
theorem stay {ws:AD} {bs rs:AH} {h w:Int} {l lo:AE} (h0:0<h) (hr:RK ws bs (nG h) rs) (s:Sorted ws (gN h) l) (ju: ∀t,TV ws t->t∈l) (hp:l.Perm lo) (st:Steps bs rs lo w) (hw:iO ws bs rs h l (l.length-1)=w):l.Pairwise (jF ws):=by
 have Qb:nG h<=gN h:=by unfold nG gN;rw[bz G];omega
 refine s.toO λt u ht hu e=>aCa h0 (λt u ht hu e=> ?_) ht hu (e.mono Qb);obtain⟨i,hi,rfl⟩:=gz.1 (ju t ht);obtain⟨j,hj,rfl⟩:=gz.1 (ju u hu);rw[<-oN hi,<-oN hj] at e ⊢;exact bCt h0 hr s hp st hw hi hj e
theorem YL {l:AE} {j:Int} (h0:0<=j) (h:j<l.length):l.take (j+1).toNat=l.take j.toNat++[rdp l j]:=by
 have hl:j.toNat<l.length:=G
 rw[show(j+1).toNat=j.toNat+1 by omega,uf,av hl];simp[rdp,ak,av hl]
theorem FP {α:Type} {r:α->α->Prop} (Mt: ∀x y,r x y-> ¬r y x): ∀ {a b:List α},a.Perm b->a.Pairwise r->b.Pairwise r->a=b
 |[],b,h,_,_=>(List.nil_perm.1 h).symm
 |x::a,[],h,_,_=>absurd h.symm cD
 | x::a,y::b,h,ha,hb=>by
  have e:x=y:=by
   rcases jm.1 (h.mem_iff.1 (.head _)) with e|e
   ·exact e
   ·have h1:=(jb.1 hb).1 x e;rcases jm.1 (h.mem_iff.2 (.head _)) with e2|e2
    ·exact e2.symm
    ·exact absurd h1 (Mt _ _ ((jb.1 ha).1 y e2))
  subst e;rw[FP Mt ((List.perm_cons x).1 h) (jb.1 ha).2 (jb.1 hb).2]
end Go.Pure
namespace Go.Pure
open Go Go.Eng
theorem bCo {w:AH} {i:Nat} (hi:i<w.length) (j:Nat):om (w.drop i++w.take i) j=w.getD ((i+j)%w.length) 0:=by
 have hl:(w.drop i++w.take i).length=w.length:=by rw[ah,az,ax];omega
 have hm:=ze j (show 0<w.length by omega);unfold om;rw[hl,ak,ak];congr 1;have e:(i+j)%w.length=(i+j%w.length)%w.length:=by rw[Nat.add_mod_mod]
 rw[e];clear e;generalize j%w.length=r at hm ⊢;by_cases h:r<w.length-i
 ·have e2:(i+r)%w.length=i+r:=lh G;rw[ji (by rw[az];exact h),qm,e2]
 ·have e2:(i+r)%w.length=i+r-w.length:=by rw[zm G,lh G]
  rw[ig (by rw[az];omega),az,og,df G,e2];congr 1;omega
theorem bFo {ws:AD} {t:Int × Int} (ht:TV ws t) (j:Nat):om ((rdl ws t.1).drop t.2.toNat++(rdl ws t.1).take t.2.toNat) j=tw ws t j:=by
 obtain⟨a,b,c,d⟩:=ht;rw[bCo G];rfl
end Go.Pure
namespace Go.Pure
open Go Go.Eng
variable {ws:AD} {l:AE} {j:Nat}
theorem Lt.of_H {H:Nat} {U V:Nat->Int} (h:LtH H U V):Lt U V:=by
 obtain⟨k,_,r⟩:=h;exact⟨k,r⟩
theorem FU (U V:Nat->Int):Lt U V\/(∀i,U i=V i)\/Lt V U:=by
 by_cases h: ∀i,U i=V i
 ·exact .inr (.inl h)
 ·obtain ⟨k,hk⟩:=Em.1 h;rcases tri (k+1) U V with a|a|a
  ·exact .inl (Lt.of_H a)
  ·exact absurd (a k G) hk
  ·exact .inr (.inr (Lt.of_H a))
theorem Lt.asymm {U V:Nat->Int} (h:Lt U V): ¬Lt V U:=by
 obtain⟨k,h1,hl⟩:=h;rintro⟨m,h2,wj⟩;by_cases a:k<m
 ·have:=h2 k a;omega
 ·by_cases b:m<k
  ·have:=h1 m b;omega
  ·have:k=m:=G
   subst this;omega
theorem Lt.not_eq {U V:Nat->Int} (h:Lt U V): ¬ ∀i,U i=V i:=λe=>by
 obtain⟨k,_,hl⟩:=h;have:=e k;omega
theorem aAp {t u:Int × Int} (h: ¬Lt (tw ws t) (tw ws u)) (hi:ltI u t):jF ws u t:=by
 rcases FU (tw ws u) (tw ws t) with a|a|a
 ·exact .inl a
 ·exact .inr ⟨a,hi⟩
 ·exact absurd a h
theorem aFv (t u:Int × Int) (h:jF ws t u): ¬jF ws u t:=by
 rcases h with h|⟨e,h⟩
 ·rintro (g|⟨e,g⟩)
  ·exact h.asymm g
  ·exact h.not_eq λi=>(e i).symm
 ·rintro (g|⟨e',g⟩)
  ·exact g.not_eq λi=>(e i).symm
  ·unfold ltI at h g;omega
theorem MO {t u v:Int × Int} (h:jF ws t u) (g:jF ws u v):jF ws t v:=by
 rcases h with⟨k,h1,hl⟩|⟨e,h⟩
 ·rcases g with g|⟨e',_⟩
  ·exact .inl (Lt.trans ⟨k,h1,hl⟩ g)
  ·exact .inl ⟨k,λi hi=>(h1 i hi).trans (e' i),by rw[<-e' k];exact hl⟩
 ·rcases g with⟨k,h1,hl⟩|⟨e',g⟩
  ·exact .inl ⟨k,λi hi=>(e i).trans (h1 i hi),by rw[e k];exact hl⟩
  ·exact .inr ⟨λi=>(e i).trans (e' i),by unfold ltI at*;omega⟩
theorem aGm {x:Int × Int} {j:Nat} (hp:l.Pairwise (jF ws)) (h1: ∀y∈l.take j,jF ws y x) (h2: ∀y∈l.drop j,jF ws x y):(l.take j++[x]++l.drop j).Pairwise (jF ws):=by
 have hs:(l.take j++l.drop j).Pairwise (jF ws):=by rw[gu];exact hp
 obtain⟨a,b,c⟩:=kz.1 hs;refine kz.2 ⟨kz.2 ⟨a,qb _ _,λy hy z hz=> ?_⟩,b,λy hy z hz=> ?_⟩
 ·obtain rfl:=ib.1 hz;exact h1 y hy
 ·rcases gp.1 hy with hy|hy
  ·exact c y hy z hz
  ·obtain rfl:=ib.1 hy;exact h2 z hz
theorem aBk {α:Type} {l:List α} {x:α}:(l.take j++[x]++l.drop j).Perm (l++[x]):=by
 have h:(l.take j++[x]++l.drop j).Perm (l.take j++l.drop j++[x]):=by
  rw[gy,gy];exact Bg _ yg
 rwa[gu] at h
theorem aRj {x:Int × Int} {j:Int} (hp:l.Pairwise (jF ws)) (h0:0<j) (hj:j<=l.length) (h:jF ws (rdp l (j-1)) x): ∀y∈l.take j.toNat,jF ws y x:=by
 intro y hy;obtain⟨i,hi,rfl⟩:=gz.1 hy;rw[ax] at hi;rw[yu];have sr:(j-1).toNat<l.length:=G
 have e:rdp l (j-1)=l[(j-1).toNat]:=by
  unfold rdp;rw[ak,av sr];rfl
 rw[e] at h;rcases fo i (j-1).toNat with a|a
 ·exact MO (dn.1 hp i (j-1).toNat G sr a) h
 ·have:i=(j-1).toNat:=G
  subst this;exact h
theorem aDe {t u:Int × Int} (ht:TV ws t) (hu:TV ws u):OH ((rdl ws t.1).drop t.2.toNat++(rdl ws t.1).take t.2.toNat) ((rdl ws u.1).drop u.2.toNat++(rdl ws u.1).take u.2.toNat)<0↔Lt (tw ws t) (tw ws u):=by
 have e1:om ((rdl ws t.1).drop t.2.toNat++(rdl ws t.1).take t.2.toNat)=tw ws t:=funext (bFo ht);have e2:om ((rdl ws u.1).drop u.2.toNat++(rdl ws u.1).take u.2.toNat)=tw ws u:=funext (bFo hu)
 have l1:0<((rdl ws t.1).drop t.2.toNat++(rdl ws t.1).take t.2.toNat).length:=by
  obtain⟨a,b,c,d⟩:=ht;rw[ah,az,ax];omega
 have l2:0<((rdl ws u.1).drop u.2.toNat++(rdl ws u.1).take u.2.toNat).length:=by
  obtain⟨a,b,c,d⟩:=hu;rw[ah,az,ax];omega
 rw[aYz l1 l2,e1,e2]
variable {ws:AD} {w k j:Int} {U:AE}
theorem aVk {u:Int × Int} (xd:0<=w) (hw:w<ws.length) (hk:k<=(rdl ws w).length) (h:u∈gD ws w.toNat++turnsOf w k.toNat):TV ws u/\ltI u (w,k):=by
 rcases gp.1 h with h|h
 ·obtain ⟨⟨a,b⟩,c,d⟩:=xZ.1 h;exact⟨⟨a,G,c,d⟩, .inl (by simp only;omega)⟩
 ·obtain ⟨a,b,c⟩:=wP.1 h;obtain⟨u1,u2⟩:=u;simp only at a b c;subst a;exact⟨⟨xd,hw,b,by simp only;omega⟩, .inr ⟨rfl,by simp only;omega⟩⟩
theorem LP (xd:0<=w) (hw:w<ws.length) (hk:k<=(rdl ws w).length) (hp:U.Perm (gD ws w.toNat++turnsOf w k.toNat)) (i:Int) (h0:0<=i) (h:i<U.length):TV ws (rdp U i)/\ltI (rdp U i) (w,k):=
 aVk xd hw hk (hp.subset (kQ h0 h))
def aJe (ws:AD) (t:Int × Int):AH:=(rdl ws t.1).drop t.2.toNat++(rdl ws t.1).take t.2.toNat
theorem aWk (xd:0<=w) (hw:w<ws.length) (md:0<=k) (hk:k<(rdl ws w).length) (hp:U.Perm (gD ws w.toNat++turnsOf w k.toNat)) (ue:0<=j) (hj:j<=U.length)
  (wd: ∀i:Int,j<=i->i<U.length->jF ws (w,k) (rdp U i)) (h:0<j/\OH (aJe ws (w,k)) (aJe ws (rdp U (j-1)))<0): ∀i:Int,j-1<=i->i<U.length->jF ws (w,k) (rdp U i):=by
 intro i h1 h2;rcases bn i j with a|a
 ·have:i=j-1:=G
  subst this;exact .inl ((aDe ⟨xd,hw,md,hk⟩ (LP xd hw G hp (j-1) G h2).1).1 h.2)
 ·exact wd i a h2
theorem bDp (xd:0<=w) (hw:w<ws.length) (md:0<=k) (hk:k<(rdl ws w).length) (hp:U.Perm (gD ws w.toNat++turnsOf w k.toNat)) (hs:U.Pairwise (jF ws)) (ue:0<=j) (hj:j<=U.length)
  (wd: ∀i:Int,j<=i->i<U.length->jF ws (w,k) (rdp U i)) (h: ¬(0<j/\OH (aJe ws (w,k)) (aJe ws (rdp U (j-1)))<0)):
  (U.take j.toNat++[(w,k)]++U.drop j.toNat).Perm (gD ws w.toNat++turnsOf w (k+1).toNat)/\(U.take j.toNat++[(w,k)]++U.drop j.toNat).Pairwise (jF ws):=by
 refine⟨?_,aGm hs ?_ ?_⟩
 ·rw [BC w md,<-gy];exact aBk.trans (Dh _ hp)
 ·rcases bn 0 j with a|a
  ·have hq:=LP xd hw G hp (j-1) G G;refine aRj hs a hj (aAp (λhl=>h ⟨a,(aDe ⟨xd,hw,md,hk⟩ hq.1).2 hl⟩) hq.2)
  ·intro y hy;rw[show j.toNat=0 by omega,yc] at hy;cases hy
 ·intro y hy;obtain⟨i,hi,rfl⟩:=gz.1 hy;rw[az] at hi;have bc:j.toNat+i<U.length:=G
  rw[Bh];have:=wd (j+(i:Int)) G G
  have e:rdp U (j+(i:Int))=U[j.toNat+i]:=by
   unfold rdp;rw[show(j+(i:Int)).toNat=j.toNat+i by omega,ak,av bc];rfl
  rwa[e] at this
variable {L s:AH} {k:Int} {ws:AD} {l:AE}
def ps (L:AH) (k:Int):Int:=(L.take k.toNat).sum
theorem lN (h0:0<=k) (h:k<L.length):ps L (k+1)=ps L k+rd L k:=by
 unfold ps;rw[dH h0 h,Cn];simp
theorem aFq (h:L.length<=k):ps L k=L.sum:=by
 unfold ps;rw[bg G]
def gV (s L:AH) (k:Int):AD:=(List.range k.toNat).map λi:Nat=>(s.drop (ps L i).toNat).take (rd L i).toNat
theorem vI (h0:0<=k):gV s L (k+1)=gV s L k++[(s.drop (ps L k).toNat).take (rd L k).toNat]:=by
 unfold gV;rw[show(k+1).toNat=k.toNat+1 by omega,zw,jo];simp only[lm,si];rw[show((k.toNat:Nat):Int)=k by omega]
theorem tY (s L:AH) (k:Int):(gV s L k).length=k.toNat:=by simp[gV]
theorem JG: ∀ {L:AH},(∀x∈L,0<x)->(L.length:Int)<=L.sum
 |[],_=>cD
 |x::L,h=>by
  have a:=h x cD;have b:=JG (L:=L) λy hy=>h y (fe _ hy);simp only[dh,ym];omega
theorem YO {L:AH} (h: ∀x∈L,0<x) (k:Nat):(L.take k).sum<=L.sum:=by
 have e:L.sum=(L.take k).sum+(L.drop k).sum:=by rw[<-Cn,gu]
 have:=JG (L:=L.drop k) λy hy=>h y (pq hy);omega
theorem FJ {L:AH} (h: ∀x∈L,0<x) (k:Int):0<=ps L k:=by
 have:=JG (L:=L.take k.toNat) λy hy=>h y (mg hy);unfold ps;omega
theorem bJ (h0:0<=k) (h:k<L.length):rd L k∈L:=by
 unfold rd;rw[ak,av G];exact mf _
theorem GM {s L:AH} (hL: ∀x∈L,0<x) (hs:L.sum<=s.length): ∀k:Nat,k<=L.length->(gV s L k).flatten=s.take (ps L k).toNat
 |0,_=>rfl
 |k+1,hk=>by
  have h0:(0:Int)<=(k:Int):=G
  have pe:(k:Int)<L.length:=G
  have hp:=FJ hL k;have hr:=hL _ (bJ h0 pe);have e:((k+1:Nat):Int)=(k:Int)+1:=G
  rw[e,vI h0,qg,GM hL hs k G,lN h0 pe,show(ps L k+rd L k).toNat=(ps L k).toNat+(rd L k).toNat by omega,Hw];simp
theorem aBy: ∀(f:Nat) (s:AH),∀x∈QE f s,0<x
 |0,s,x,h=>by cases h
 | f+1,s,x,h=>by
  unfold QE at h;cases s with
  |nil=>cases h
  | cons a s=>
   simp only[Dk,ww,xk] at h;rcases jm.1 h with rfl|h
   ·have:=qX (s:=a::s) cD (a::s).length cD;omega
   ·exact aBy f _ x h
theorem rA (s:AH): ∀x∈dN s,0<x:=aBy _ _
theorem aBx: ∀(f:Nat) (s:AH),s.length<=f->(QE f s).sum=s.length
 |0,s,h=>by
  have:s=[]:=Ar.1 G;subst this;rfl
 | f+1,s,h=>by
  unfold QE;cases s with
  |nil=>rfl
  |cons a s=>
   simp only[Dk,ww,xk];have h1:=qX (s:=a::s) cD (a::s).length cD;have h2:=SX (a::s) (a::s).length;rw[ym,aBx f _ (by rw[az];omega),az];omega
theorem DT (s:AH):(dN s).sum=s.length:=aBx _ _ (di _)
theorem DU (s:AH):(dN s).length<=s.length:=by
 have:=JG (rA s);have:=DT s;omega
theorem bFm (s:AH) (k:Int):ps (dN s) k<=s.length:=by
 have:=YO (rA s) k.toNat;have:=DT s;unfold ps;omega
def bws (s:AH):AD:=gV s (dN s) (dN s).length
theorem lL (s:AH):(bws s).flatten=s:=by
 unfold bws;rw[GM (rA s) (by rw[DT];omega) _ (di _),aFq (lq _),DT];simp
theorem aLp (s:AH):(bws s).length=(dN s).length:=by unfold bws;rw[tY];omega
theorem aLw (hp:l.Perm (gD ws ws.length)):l.length=ws.flatten.length:=by
 rw[hp.length_eq,xN ws _ (di _)];unfold nZ;rw[ve]
theorem yI (hp:l.Perm (gD (bws s) (bws s).length)):l.length=s.length:=by rw[aLw hp,lL]
def lastB (ws:AD) (t:Int × Int):Int:=rd (rdl ws t.1) ((t.2+(rdl ws t.1).length-1)%((rdl ws t.1).length:Int))
theorem aOv {t:Int × Int} (h:TV ws t):lastB ws t∈ws.flatten:=by
 obtain⟨a,b,c,d⟩:=h;have hn:(0:Int)<(rdl ws t.1).length:=G
 have h1:=ko (t.2+(rdl ws t.1).length-1) (Int.ne_of_gt hn);have h2:=ja (t.2+(rdl ws t.1).length-1) hn;exact Bt.2 ⟨_,bBv a b,bJ h1 h2⟩
theorem kJ (hp:l.Perm (gD ws ws.length)) (hb:aP ws.flatten):aP (l.map (lastB ws)):=by
 intro x hx;obtain⟨t,ht,rfl⟩:=iy.1 hx;exact hb _ (aOv (yA.1 (hp.subset ht)))
end Go.Pure
