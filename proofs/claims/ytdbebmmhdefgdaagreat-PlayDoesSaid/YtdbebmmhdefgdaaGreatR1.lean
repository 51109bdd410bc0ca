/- Own work. -/
import Derived.WalkKit
import Derived.Maps.AppendAt
import Derived.Deep.LoopGhost
import Derived.Orders
import Derived.OrdersIn
import Derived.TacticsIn
import Derived.Sort.LoopGhostIn
import Derived.Laws.BytesArg
import Derived.Lib.ConvBytes
import Derived.Laws.MakeOwn
import Derived.Laws.OwnMore
import Derived.Laws.Slices
import Derived.OrdersHeld
import Derived.Test.YtdbebmmhdefgdaaGreatProg
import Derived.KernelRfl
import Derived.ProofKit
import Derived.OpenShut
import Derived.Laws.LoneSync
import Derived.Deep.Matrix
import Derived.Laws.Rows
import Derived.SizedLaws
import Derived.Shelf.SlSortCmp.WholeK
set_option linter.unusedVariables false
set_option linter.unusedSimpArgs false
namespace Go
abbrev aa:=@Go.Proofs.Tryz.underlying52
abbrev af:=@Go.Proofs.Tryz.underlying22
abbrev ah.{u}:=@List.length_append.{u}
abbrev ai.{u}:=@List.getD_eq_getElem?_getD.{u}
abbrev ak:=@Go.Proofs.Tryz.underlying3
abbrev au:=@Nat.le_of_ble_eq_true
abbrev av.{u}:=@List.getElem?_eq_getElem.{u}
abbrev ax.{u}:=@List.length_take.{u}
abbrev ay.{u}:=@List.length_drop.{u}
abbrev az:=@Go.Proofs.Tryz.underlying27
abbrev bg:=@Go.Proofs.Tryz.underlying5
abbrev bi:=@Int.lt_or_le
abbrev bn.{u}:=@List.take_of_length_le.{u}
abbrev bq.{u,v}:=@congrArg.{u,v}
abbrev bu.{u}:=@if_neg.{u}
abbrev bz.{u,v}:=@List.length_map.{u,v}
abbrev cu:=@Int.toNat_natCast
abbrev cz.{u}:=@List.length_replicate.{u}
abbrev df.{u}:=@if_pos.{u}
abbrev dh.{u}:=@List.length_cons.{u}
abbrev di:=@Nat.le_refl
abbrev dm:=@Go.Proofs.Tryz.underlying23
abbrev dn.{u}:=@List.pairwise_iff_getElem.{u}
abbrev dw.{u}:=@List.getElem?_eq_some_iff.{u}
abbrev dx:=@Go.Proofs.Tryz.underlying112
abbrev dz:=@Nat.eq_zero_or_pos
abbrev ed.{u}:=@List.eq_nil_of_length_eq_zero.{u}
abbrev ek.{u}:=@List.mem_cons_of_mem.{u}
abbrev fe:=@Nat.lt_or_ge
abbrev fo.{u}:=@Array.getElem?_eq_some_iff.{u}
abbrev fw:=@Go.Proofs.Tryz.underlying56
abbrev gm.{u}:=@List.mem_of_getElem?.{u}
abbrev gp.{u}:=@List.mem_append.{u}
abbrev gq.{u}:=@List.length_singleton.{u}
abbrev gu.{u}:=@List.take_append_drop.{u}
abbrev gy.{u}:=@List.append_assoc.{u}
abbrev gz.{u}:=@List.mem_iff_getElem.{u}
abbrev ib.{u}:=@List.mem_singleton.{u}
abbrev ic:=@Go.Proofs.Tryz.underlying87
abbrev ig.{u}:=@List.getElem?_append_right.{u}
abbrev ii:=@Go.Proofs.Tryz.underlying100
abbrev ik:=@Go.Proofs.Tryz.underlying102
abbrev il.{u,v}:=@Option.map_eq_some_iff.{u,v}
abbrev iv:=@decide_eq_true_iff
abbrev iw.{u,v}:=@List.pairwise_map.{u,v}
abbrev iy.{u,v}:=@List.mem_map.{u,v}
abbrev ja:=@Int.emod_lt_of_pos
abbrev jb.{u}:=@List.pairwise_cons.{u}
abbrev jc.{u}:=@Option.some.inj.{u}
abbrev jd:=@Int.lt_trichotomy
abbrev je.{u}:=@List.nil_append.{u}
abbrev jf:=@Go.Proofs.Tryz.underlying25
abbrev jg:=@Go.Proofs.Tryz.underlying228
abbrev jh.{u}:=@List.cons_append.{u}
abbrev ji.{u}:=@List.getElem?_append_left.{u}
abbrev jk.{u}:=@List.append_nil.{u}
abbrev jl.{u}:=@List.length_nil.{u}
abbrev jm.{u}:=@List.mem_cons.{u}
abbrev jo.{u,v}:=@List.map_append.{u,v}
abbrev jq:=@List.mem_range
abbrev jr:=@Go.Proofs.Tryz.underlying253
abbrev jv:=@Go.Result.andThen_ok
abbrev jw:=@Go.Proofs.Tryz.underlying230
abbrev jy.{u}:=@Array.length_toList.{u}
abbrev kg:=@Go.Sem.run_bind
abbrev ko:=@Int.emod_nonneg
abbrev ku.{u}:=@List.drop_eq_getElem_cons.{u}
abbrev kv:=@Go.Value.slice.injEq
abbrev ky.{u,v}:=@Option.map_some.{u,v}
abbrev kz.{u}:=@List.pairwise_append.{u}
abbrev lc:=@Nat.mod_eq_of_lt
abbrev lh:=@Go.Proofs.Tryz.underlying54
abbrev ll.{u}:=@List.filter_cons_of_neg.{u}
abbrev lm.{u,v}:=@List.map_cons.{u,v}
abbrev lq:=@Int.le_refl
abbrev lu.{u}:=@List.getElem_mem.{u}
abbrev lv.{u}:=@List.mem_of_mem_take.{u}
abbrev mf.{u}:=@List.getElem?_eq_none.{u}
abbrev mg.{u}:=@Option.some.injEq.{u}
abbrev mh:=@Go.run_underlying
abbrev mo:=@Go.Proofs.Tryz.underlying49
abbrev mr:=@Nat.add_assoc
abbrev ng:=@Nat.zero_add
abbrev ni:=@Go.Sem.run_pure
abbrev nk:=@decide_eq_true
abbrev nu:=@Int.mul_le_mul_of_nonneg_right
abbrev ny.{u}:=@List.getElem?_take.{u}
abbrev nz.{u}:=@Option.getD_some.{u}
abbrev og.{u}:=@List.mem_filter.{u}
abbrev oh:=@decide_eq_false
abbrev ol.{u}:=@List.Pairwise.imp_of_mem.{u}
abbrev oq.{u}:=@List.drop_of_length_le.{u}
abbrev ou.{u}:=@List.getElem?_take_of_lt.{u}
abbrev ow:=@Go.Proofs.Tryz.underlying352
abbrev oz:=@Go.Proofs.Tryz.underlying360
abbrev pg.{u}:=@List.mem_of_mem_drop.{u}
abbrev pq:=@Bool.and_eq_true
abbrev pu:=@Int.emod_eq_of_lt
abbrev pz.{u}:=@List.filter_cons_of_pos.{u}
abbrev qa.{u}:=@List.pairwise_singleton.{u}
abbrev qb.{u}:=@List.singleton_append.{u}
abbrev qc:=@Go.Proofs.Tryz.underlying269
abbrev qd.{u}:=@Array.getElem?_eq_getElem.{u}
abbrev qf:=@Int.toNat_of_nonneg
abbrev qg.{u}:=@List.flatten_append.{u}
abbrev qh.{u}:=@List.length_reverse.{u}
abbrev qi:=@Go.Proofs.Tryz.underlying256
abbrev qj.{u}:=@List.size_toArray.{u}
abbrev ql.{u}:=@List.getElem?_drop.{u}
abbrev qm:=@Nat.add_zero
abbrev qo:=@Go.Proofs.Tryz.underlying123
abbrev qp:=@Nat.le_trans
abbrev qw:=@Nat.mul_one
abbrev qx:=@Go.Proofs.Tryz.func30
abbrev qy:=@Nat.sub_add_cancel
abbrev qz:=@Go.Proofs.Tryz.underlying281
abbrev rf.{u}:=@Array.getElem?_toList.{u}
abbrev rq:=@Go.Proofs.Tryz.func31
abbrev ry.{u,v}:=@List.map_nil.{u,v}
abbrev rz:=@Int.mul_assoc
abbrev si.{u}:=@List.flatten_cons.{u}
abbrev sj.{u,v}:=@List.getElem?_map.{u,v}
abbrev su.{u}:=@List.take_add_one.{u}
abbrev sw:=@Go.Proofs.Tryz.underlying106
abbrev tq:=@Go.Proofs.Tryz.underlying250
abbrev uf:=@Nat.zero_le
abbrev ug.{u}:=@List.filter_append.{u}
abbrev uh.{u,v}:=@List.map_toArray.{u,v}
abbrev ui.{u}:=@List.append_toArray.{u}
abbrev uj.{u}:=@List.filter_sublist.{u}
abbrev uk.{u}:=@List.length_flatten.{u}
abbrev ul.{u}:=@List.ext_getElem?.{u}
abbrev um.{u,v,w}:=@getElem!_pos.{u,v,w}
abbrev uo:=@decide_eq_false_iff_not
abbrev uq:=@Nat.mul_le_mul_right
abbrev ut:=@Go.Proofs.Tryz.underlying277
abbrev uu:=@Go.Proofs.Tryz.underlying279
abbrev uy:=@Int.pow_zero
abbrev uz.{u}:=@List.take_length.{u}
abbrev ve.{u}:=@Array.toList_append.{u}
abbrev vg.{u}:=@Array.getElem?_modify.{u}
abbrev vk:=@Int.pow_nonneg
abbrev vo:=@Int.pow_succ
abbrev vw.{u}:=@List.nodup_cons.{u}
abbrev vz:=@Nat.add_comm
abbrev wh:=@Bool.false_eq_true
abbrev wo.{u}:=@Array.replicate_succ.{u}
abbrev wu.{u}:=@Array.replicate_zero.{u}
abbrev ww.{u}:=@List.all_eq_true.{u}
abbrev wz.{u}:=@List.ext_getElem.{u}
abbrev xc:=@List.nodup_range
abbrev xe.{u}:=@if_false.{u}
abbrev xg.{u}:=@Array.getD_eq_getD_getElem?.{u}
abbrev xh:=@Go.Proofs.Tryz.underlying262
abbrev xk:=@Decidable.not_not
abbrev xm.{u}:=@List.drop_eq_nil_of_le.{u}
abbrev xq.{u}:=@List.getElem?_set.{u}
abbrev xu.{u}:=@List.nodup_append.{u}
abbrev xw.{u}:=@List.take_zero.{u}
abbrev xx:=@Nat.lt_trichotomy
abbrev xz:=@Nat.add_mul
abbrev yc.{u}:=@List.perm_append_comm.{u}
abbrev yf:=@Nat.eq_of_beq_eq_true
abbrev yg:=@decide_eq_decide
abbrev yh:=@Int.add_zero
abbrev yj.{u}:=@List.sum_cons.{u}
abbrev yl.{u,v}:=@Prod.mk.injEq.{u,v}
abbrev ym.{u}:=@List.getElem_take.{u}
abbrev yo.{u}:=@List.push_toArray.{u}
abbrev yt.{u}:=@Array.getElem?_setIfInBounds.{u}
abbrev yu:=@Nat.min_eq_left
abbrev yw:=@Nat.mod_lt
abbrev yx.{u}:=@Array.getElem?_eq_none.{u}
abbrev yz.{u,v,w}:=@List.map_map.{u,v,w}
abbrev za:=@Nat.sub_self
abbrev ze:=@Nat.sub_zero
abbrev zf:=@Go.Proofs.Tryz.underlying47
abbrev zg.{u}:=@List.not_mem_nil.{u}
abbrev zh:=@BitVec.toNat_ofInt
abbrev zi.{u}:=@List.take_left.{u}
abbrev zk:=@Nat.mod_eq_sub_mod
abbrev zl:=@Int.ediv_lt_of_lt_mul
abbrev zm.{u}:=@List.length_filter_le.{u}
abbrev zo:=@Bool.or_eq_true
abbrev zq:=@List.range_succ
abbrev zt:=@Int.mul_one
abbrev zu:=@Int.pow_add
abbrev zw.{u}:=@List.drop_sublist.{u}
abbrev zx:=@Go.Region.noSelect_spec
abbrev zy:=@decide_eq_true_eq
abbrev zz:=@Go.run_sliceAt_slice
abbrev Aa:=@Go.Proofs.Tryz.underlying84
abbrev Ae:=@Go.Proofs.Tryz.underlying146
abbrev Af:=@List.getElem?_range
abbrev Ag:=@Int.mul_nonneg
abbrev Ah:=@Int.natCast_emod
abbrev Ai.{u}:=@List.getElem?_replicate.{u}
abbrev Aj.{u}:=@List.length_eq_zero_iff.{u}
abbrev Ak:=@true_and
abbrev Al:=@Int.le_ediv_iff_mul_le
abbrev Am:=@Nat.mul_comm
abbrev Ao:=@Go.Proofs.Tryz.underlying167
abbrev Aq:=@Int.natCast_mul
abbrev Ar.{u,v}:=@Option.map_none.{u,v}
abbrev Au:=@and_true
abbrev Av:=@Go.Addr.mk.injEq
abbrev Ay:=@Go.callsIn_of_wp
abbrev Az:=@Go.Proofs.Tryz.underlying117
abbrev Ba:=@Go.wpIn_mono
abbrev Bb.{u}:=@Array.getElem?_append.{u}
abbrev Bc.{u}:=@List.Perm.append_left.{u}
abbrev Be.{u}:=@List.getElem_drop.{u}
abbrev Bf:=@Go.Proofs.Tryz.zeroValue167
abbrev Bg:=@of_decide_eq_true
abbrev Bh:=@Go.DataW.trod_int
abbrev Bi:=@Int.fdiv_eq_ediv_of_nonneg
abbrev Bj.{u}:=@List.mem_append_left.{u}
abbrev Bl:=@Nat.one_mul
abbrev Bn:=@Go.Proofs.Tryz.underlying4
abbrev Bo:=@Int.natCast_zero
abbrev Bp:=@Go.IntKind.wrap_i64
abbrev Bq.{u,v}:=@List.getElem_map.{u,v}
abbrev Br.{u}:=@List.mem_flatten.{u}
abbrev Bt.{u}:=@List.mem_reverse.{u}
abbrev Bu:=@Nat.le_add_right
abbrev Bv:=@Go.Region.free_spec
abbrev Bw:=@Go.Proofs.Tryz.underlying3
abbrev Bz.{u}:=@List.countP_eq_zero.{u}
abbrev Ca.{u}:=@List.drop_succ_cons.{u}
abbrev Cb.{u}:=@List.getElem_set_ne.{u}
abbrev Cc.{u,v}:=@List.map_congr_left.{u,v}
abbrev Ce:=@Bool.not_true
abbrev Cf.{u}:=@List.length_erase_of_mem.{u}
abbrev Cg.{u,v}:=@List.map_take.{u,v}
abbrev Ch:=@UInt8.toNat_ofNat_of_lt'
abbrev Ci:=@Go.Proofs.Tryz.underlying167
abbrev Cj:=@Go.Proofs.Tryz.underlying248
abbrev Ck:=@Go.IntKind.wrap_u8
abbrev Cm.{u}:=@List.sum_append.{u}
abbrev Cn:=@Go.Result.ok.injEq
abbrev Co:=@Go.Proofs.Tryz.zeroValue3
abbrev Cq:=@Nat.lt_or_gt_of_ne
abbrev Cr:=@Nat.mul_div_cancel
abbrev Cs.{u}:=@Option.toList_some.{u}
abbrev Cu:=@Go.Proofs.Tryz.underlying112
abbrev Cv:=@Go.Proofs.Tryz.underlying123
abbrev Cw.{u}:=@List.getElem?_cons_succ.{u}
abbrev Cx.{u,v}:=@Option.bind_eq_some_iff.{u,v}
abbrev Cy:=@Go.Proofs.Tryz.func62
abbrev Cz.{u}:=@List.set_eq_take_append_cons_drop.{u}
abbrev Da:=@Int.le_of_lt
abbrev Db:=@Int.mul_comm
abbrev Dc.{u}:=@List.Perm.append_right.{u}
abbrev De.{u}:=@List.drop_zero.{u}
abbrev Dg.{u,v}:=@List.flatMap_cons.{u,v}
abbrev Dh.{u}:=@List.isEmpty_cons.{u}
abbrev Di.{u}:=@List.length_pos_of_mem.{u}
abbrev Dj.{u}:=@List.not_of_lt_findIdx.{u}
abbrev Dk:=@Nat.le_mul_of_pos_left
abbrev Dl:=@Nat.mul_le_mul
abbrev Dm:=@Nat.zero_mul
abbrev Dn:=@Go.Proofs.Tryz.sizeOf167
abbrev Dp:=@Go.Proofs.Tryz.zeroValue112
abbrev Dq:=@Go.Proofs.Tryz.zeroValue123
abbrev Dr:=@not_false_eq_true
abbrev Dt.{u}:=@List.replicate_append_replicate.{u}
abbrev Du.{u}:=@List.countP_mono_left.{u}
abbrev Dv.{u}:=@List.set_append_right.{u}
abbrev Dw:=@Nat.and_two_pow_sub_one_eq_mod
abbrev Dx:=@Nat.div_eq_of_lt
abbrev Dy:=@Go.Proofs.Tryz.underlying0
abbrev Dz:=@Go.Proofs.Tryz.underlying4
abbrev Ea:=@Go.Proofs.Tryz.underlying5
abbrev Eb:=@Go.Proofs.Tryz.underlying9
abbrev Ec:=@Go.mem_ready
abbrev Ed:=@Bool.false_or
abbrev Ee:=@Go.Proofs.Tryz.isAgg167
abbrev Ef:=@Go.Proofs.Tryz.underlying185
abbrev Eg:=@Go.Proofs.Tryz.underlying350
abbrev Eh.{u}:=@Classical.not_forall.{u}
abbrev Ei:=@Int.mul_le_mul_of_nonneg_left
abbrev Ej:=@Int.pow_pos
abbrev El.{u}:=@List.findIdx_getElem.{u}
abbrev Em.{u}:=@List.getElem_reverse.{u}
abbrev En.{u}:=@List.mem_erase_of_ne.{u}
abbrev Eo.{u}:=@List.take_append_of_le_length.{u}
abbrev Ep:=@Nat.le_succ
abbrev Er:=@Nat.pow_le_pow_right
abbrev Es:=@Int.ediv_nonneg
abbrev Et:=@Int.min_eq_left
abbrev Eu:=@Int.natCast_pow
abbrev Ev.{u}:=@List.drop_left'.{u}
abbrev Ew.{u}:=@List.length_set.{u}
abbrev Ex.{u}:=@List.take_left'.{u}
abbrev Ey:=@Go.Proofs.Tryz.zeroValue0
abbrev Ez:=@Go.Proofs.Tryz.zeroValue4
abbrev Fa:=@Go.Proofs.Tryz.zeroValue5
abbrev Fb:=@Go.Proofs.Tryz.zeroValue9
abbrev Fe.{u}:=@List.filter_eq_self.{u}
abbrev Ff.{u}:=@List.take_succ_cons.{u}
abbrev Fg:=@Go.run_callFunc_extern
abbrev Fh.{u}:=@List.attach_map_subtype_val.{u}
abbrev Fj:=@Nat.succ_mul
abbrev Fp:=@Nat.two_pow_add_eq_or_of_lt
abbrev Fq.{u}:=@Ne.symm.{u}
abbrev Fs:=@Go.Proofs.Tryz.sizeOf3
abbrev Fu.{u}:=@if_true.{u}
abbrev Fv:=@Go.run_call_add
abbrev Fw:=@Go.RowKit.Below.refl
abbrev Fx:=@Int.lt_or_eq_of_le
abbrev Fy.{u}:=@List.drop_drop.{u}
abbrev Fz.{u}:=@List.drop_left.{u}
abbrev Ga.{u}:=@List.set_cons_zero.{u}
abbrev Gb:=@Go.Proofs.Tryz.sizeOf112
abbrev Gc:=@Go.Proofs.Tryz.sizeOf123
abbrev Gf:=@Go.Proofs.Tryz.underlying288
abbrev Gg:=@Go.Proofs.Tryz.underlying289
abbrev Gh:=@Go.Proofs.Tryz.underlying316
abbrev Gi:=@Go.Proofs.Tryz.underlying320
abbrev Gj:=@Go.Proofs.Tryz.underlying337
abbrev Gl:=@Go.Proofs.Tryz.underlying338
abbrev Gm:=@Go.grownCap_le_maxLen
abbrev Gn:=@Go.ready_mono
abbrev Gp.{u}:=@Array.all_eq_true.{u}
abbrev Gq.{u}:=@Array.getElem_mem.{u}
abbrev Gr.{u}:=@List.countP_congr.{u}
abbrev Gs.{u,v}:=@List.foldl_append.{u,v}
abbrev Gt.{u}:=@List.idxOf_append.{u}
abbrev Gu:=@List.length_range
abbrev Gv:=@Go.Proofs.Tryz.func36
abbrev Gw:=@Go.Proofs.Tryz.func84
abbrev Gx:=@Go.Proofs.Tryz.isAgg3
abbrev Gy:=@Go.Proofs.Tryz.underlying97
abbrev Gz:=@Go.Proofs.Tryz.zeroValue288
abbrev Ha:=@Go.Proofs.Tryz.zeroValue289
abbrev Hd:=@Go.Proofs.Tryz.zeroValue316
abbrev He:=@Go.Proofs.Tryz.zeroValue320
abbrev Hf:=@Go.Proofs.Tryz.zeroValue337
abbrev Hg:=@Go.Proofs.Tryz.zeroValue338
abbrev Hl:=@Go.Proofs.Tryz.underlying9
abbrev Hm.{u}:=@List.all_cons.{u}
abbrev Ho.{u,v}:=@List.map_drop.{u,v}
abbrev Hq.{u}:=@List.take_add.{u}
abbrev Hr:=@Go.Proofs.Tryz.isAgg112
abbrev Ht:=@Go.Proofs.Tryz.isAgg123
abbrev Hu:=@Go.Proofs.Tryz.underlying114
abbrev Hw:=@Go.Proofs.Tryz.underlying203
abbrev Hy:=@Go.Proofs.Tryz.underlying221
abbrev Hz:=@Int.ediv_le_self
abbrev Ia:=@Go.IntKind.wrap_u64
abbrev Ib.{u}:=@List.drop_length.{u}
abbrev Ic.{u}:=@List.flatten_nil.{u}
abbrev Ie.{u,v}:=@List.map_reverse.{u,v}
abbrev Ig.{u,v}:=@List.mem_flatMap.{u,v}
abbrev Ih:=@Go.Proofs.Tryz.zeroValue97
abbrev Ii:=@Int.le_trans
abbrev Ij:=@Int.sub_self
abbrev Ik:=@Int.sub_zero
abbrev Il:=@Int.zero_mul
abbrev Im.{u}:=@List.sum_nil.{u}
abbrev Io:=@Nat.not_lt
abbrev Ip:=@Go.Proofs.Tryz.func130
abbrev Iq:=@Go.Proofs.Tryz.func134
abbrev Ir:=@Go.Proofs.Tryz.func149
abbrev Iu:=@Go.Proofs.Tryz.func158
abbrev Iw:=@Go.Proofs.Tryz.func159
abbrev Iy:=@Go.Proofs.Tryz.func161
abbrev Iz:=@Go.Proofs.Tryz.func166
abbrev Ja:=@Go.Proofs.Tryz.func194
abbrev Jb:=@Go.Proofs.Tryz.sizeOf0
abbrev Jc:=@Go.Proofs.Tryz.sizeOf4
abbrev Jd:=@Go.Proofs.Tryz.sizeOf5
abbrev Je:=@Go.Proofs.Tryz.sizeOf9
abbrev Jf:=@Go.setRow_other
abbrev Jh:=@BitVec.toNat_or
abbrev Ji.{u}:=@List.cons.injEq.{u}
abbrev Jk:=@Go.wpIn_region_any
abbrev Jl:=@Int.add_mul
abbrev Jm:=@Int.mul_add
abbrev Jn:=@Nat.add_mod
abbrev Jo:=@Nat.mul_pos
abbrev Jp:=@Go.Proofs.Tryz.func41
abbrev Jq:=@Go.Proofs.Tryz.func46
abbrev Jr:=@Go.Proofs.Tryz.func58
abbrev Js:=@Go.Proofs.Tryz.func61
abbrev Jt:=@Go.Proofs.Tryz.func63
abbrev Ju:=@Go.Proofs.Tryz.func64
abbrev Jv:=@Go.Proofs.Tryz.func66
abbrev Jw:=@Go.Proofs.Tryz.func74
abbrev Jy:=@Go.Proofs.Tryz.func91
abbrev Jz:=@Go.Proofs.Tryz.isAgg0
abbrev Ka:=@Go.Proofs.Tryz.isAgg4
abbrev Kb:=@Go.Proofs.Tryz.isAgg5
abbrev Kc:=@Go.Proofs.Tryz.isAgg9
abbrev Ke:=@Go.setRow_heap
theorem G{p:Prop}(h:p:=by omega):p:=h
theorem cA{p:Prop}(h:p:=by kernel_rfl):p:=h
theorem cC{p:Prop}(h:p:=by decide):p:=h
theorem cD{p:Prop}(h:p:=by simp):p:=h
theorem cE{p:Prop}(h:p:=by first |assumption|omega|decide):p:=h
theorem cF{p:Prop}(h:p:=by assumption):p:=h
theorem cG{p:Prop}(h:p:=by first |omega|(dsimp only;omega)):p:=h
theorem cH{p:Prop}(h:p:=by simp;omega):p:=h
end Go
namespace Go.Eng
theorem Z.{u} {α:Sort u} {a:α}:a=a:=rfl
end Go.Eng
namespace Go.Eng
open Go Go.RowKit
abbrev Env:=List (Nat × Value)
def lk:Env->Nat->Option Value
 |[],_=>none
 |(k,v)::r,t=>bif Nat.beq k t then some v else lk r t
def ev (L:Env):Operand->Option Value
 | .tmp t=>lk L t
 | .const v=>some v
 | .global g=>some (.pointer (some ⟨g,0,none⟩))
 | .func f=>some (.func (.func f) #[] #[])
structure Nd where
 n:Nat
 ds:List Deferred
 rd:Option Nat:=none
def NF (rd:Option Nat):Fence:= {Fence.wide with round:=rd}
def BO (o:Oper):Bool:=match o.op with| .defer _=>false|_=>true
def yF:Option Nat->List Oper->Bool
 |none,_=>true
 |some _,l=>l.all BO
theorem aTn {P:Program} {rd:Option Nat} {o:Oper} {a:Act} {w:World} {K:Act->World->Prop} {Q:Exit->Act->World->Prop} (hd:rd=none\/BO o=true) (h:o.wp P a w K Q):o.wpIn (NF rd) 0 P a w K Q:=by
  refine⟨λ_ _=>trivial,?_⟩
  have e:o.semAt (NF rd).round a.eval=execOp a.eval o:=by
    rcases hd with rfl|hd
    · exact Oper.semAt_none _ _
    · exact Oper.semAt_eq _ _ _ (λc hc=>by simp[BO,hc] at hd)
  rw[e];unfold Oper.wp at h;generalize (execOp a.eval o).run P w=r at*;cases r with
  | ok x w'=>
    cases x<;>simp only[Oper.upon,Oper.uponIn] at h ⊢
    all_goals first
      |exact h
      |exact h.elim
      | (refine ⟨λh0=>(by cases h0),?_⟩
         exact callsIn_wide (n:=0).2 h)
      | (refine ⟨λh0=>(by cases h0),?_⟩
         intro c cs _;obtain⟨v,Lz,hR,hs⟩:=h c cs
         exact⟨v,Lz,hR,stepsIn_wide.2 hs⟩)
  |halt x w'=>cases x<;>simp only[Oper.upon,Oper.uponIn] at h ⊢ <;>exact h
theorem aEu {P:Program} {rd:Option Nat} {ops:Array Oper} {Q:Exit->Act->World->Prop} (hq: ¬LetsOut Q): ∀(l:List Oper) (a:Act) (w:World),yF rd l=true->wpList P ops Q l a w->wpListIn (NF rd) 0 P ops Q l a w
 |[],_,_,_,h=>h
 | o::l,a,w,hd,h=>by
  have An:rd=none\/BO o=true:=by
   cases rd with
   |none=>exact .inl rfl
   |some _=>simp only[yF,Hm,pq] at hd;exact .inr hd.1
  have Nx:yF rd l=true:=by
   cases rd with
   |none=>rfl
   |some _=>simp only[yF,Hm,pq] at hd;exact hd.2
  unfold wpList at h;unfold wpListIn;split
  ·rename_i hw;rw[df hw] at h;rcases h with h|h
   ·exact aTn An (Oper.wp_mono (λa w h=>aEu hq l a w Nx h) h)
   ·exact absurd h.2 hq
  ·rename_i hw;rw[bu hw] at h;exact⟨λ_ _=>trivial,aEu hq l _ _ Nx h⟩
theorem SI {P:Program} {rd:Option Nat} {ops:Array Oper} {Q:Exit->Act->World->Prop} (hq: ¬LetsOut Q) (hd:yF rd ops.toList=true): ∀(ac:Nat) (ab:Array Bool) (a:Act) (w:World),wpAny P .any ops Q ac ab a w->wpAnyIn (NF rd) 0 P .any ops Q ac ab a w
 |0,_,_,_,h=>h
 | ac+1,ab,a,w,h=>by
  refine⟨h.1,λi hi=> ?_⟩;have h1:=h.2 i hi;unfold wpOp at h1;unfold wpOpIn;cases ho:ops[i]? with
  |none=>simp only[ho] at h1 ⊢;exact SI hq hd ac _ _ _ h1
  | some o=>
   simp only[ho] at h1 ⊢
   have An:rd=none\/BO o=true:=by
    cases rd with
    |none=>exact .inl rfl
    |some _=>exact .inr (ww.1 hd o (Array.mem_toList_iff.2 (Array.mem_of_getElem? ho)))
   split
   ·rename_i hw;rw[df hw] at h1;rcases h1 with h1|h1
    ·exact aTn An (Oper.wp_mono (λa w h=>SI hq hd ac _ a w h) h1)
    ·exact absurd h1.2 hq
   ·rename_i hw;rw[bu hw] at h1;exact⟨λ_ _=>trivial,SI hq hd ac _ _ _ h1⟩
instance:Coe Nd Nat:=⟨Nd.n⟩
instance:Coe Nat Nd:=⟨λn=>⟨n,[],none⟩⟩
structure Sat (n:Nd) (L:Env) (a:Act):Prop where
 size:a.tmps.size=n.n
 defers:a.defers=n.ds
 val: ∀t v,lk L t=some v->a.tmps[t]? =some v
theorem Sat.getD {n:Nd} {L:Env} {a:Act} (h:Sat n L a) {t:Nat} {v:Value} (hx:lk L t=some v):a.tmps.getD t undef=v:=by
 rw[xg,h.val t v hx];rfl
theorem Sat.ev {n:Nd} {L:Env} {a:Act} (h:Sat n L a) {x:Operand} {v:Value} (hx:ev L x=some v):a.eval x=v:=by
 cases x with
 |tmp t=>exact h.getD hx
 |const u=>exact jc hx
 |global g=>exact jc hx
 |func f=>exact jc hx
theorem xP {L:Env} {k t:Nat} {v u:Value} (h:lk ((k,v)::L) t=some u):(k=t/\v=u)\/(k≠t/\lk L t=some u):=by
 unfold lk at h;cases hb:Nat.beq k t with
 |true=>rw[hb] at h;exact .inl ⟨yf hb,jc h⟩
 |false=>rw[hb] at h;exact .inr ⟨Nat.ne_of_beq_eq_false hb,h⟩
theorem Sat.put {n:Nd} {L:Env} {a:Act} (h:Sat n L a) {d:Nat} (hd:Nat.blt d n=true) (v:Value):Sat n ((d,v)::L) (a.put (some d) v):=by
 have Xm:d<n:=au hd;refine⟨by simp[Act.put,h.size],by simp[Act.put,h.defers],λt u hu=> ?_⟩;rcases xP hu with⟨rfl,rfl⟩|⟨dv,hl⟩
 ·simp[Act.put,h.size,Xm]
 ·rw [<-h.val t u hl];simp[Act.put,dv]
def Sub (L1 L:Env):Prop:= ∀t v,lk L1 t=some v->lk L t=some v
theorem Sub.nil {L:Env}:Sub [] L:=λt v h=>by simp[lk] at h
theorem Sub.cons {L1 L:Env} {t:Nat} {v:Value} (h:lk L t=some v) (hs:Sub L1 L):Sub ((t,v)::L1) L:=by
 intro s u hu;rcases xP hu with⟨rfl,rfl⟩|⟨_,hl⟩
 ·exact h
 ·exact hs s u hl
theorem Sub.refl (L:Env):Sub L L:=λ_ _ h=>h
theorem Sat.sub {n:Nd} {L L1:Env} {a:Act} (h:Sat n L a) (hs:Sub L1 L):Sat n L1 a:=⟨h.size,h.defers,λt v ht=>h.val t v (hs t v ht)⟩
structure Row where
 e:TypeId
 sz:Nat
 A:Option Addr
 n:Nat
 c:Nat
 xs:List Value
 ro:Bool:=false
def Row.lies (B:Nat) (w:World) (r:Row):Prop:=
 match r.ro with
 |false=>w.ownsRow B r.e r.sz (.slice r.A r.n r.c) r.n r.xs
 |true=> ∃g cur fr,r.A=some ⟨g,0,none⟩/\B<=g/\w.heap[g]? =some (.cells cur r.e fr)/\r.n<=maxLen/\r.n<=r.c/\r.xs.length=r.n*r.sz/\cur.toList.take (r.n*r.sz)=r.xs
def Row.apart (r r':Row):Prop:= ∀a a',r.A=some a->r'.A=some a'->a.block≠a'.block
theorem Row.apart_symm {r r':Row} (h:r.apart r'):r'.apart r:=λa a' h1 h2=>Fq (h a' a h2 h1)
def ZK:Obj->Bool
 | .cells .. =>false
 |_=>true
def Late (w0 w:World):Prop:=w0.drawn<=w.drawn/\ ∀(k:Nat) (o:Obj),w0.heap[k]? =some o->ZK o=true->w.heap[k]? =some o
theorem Late.refl (w:World):Late w w:=⟨di _,λ_ _ h _=>h⟩
theorem Late.trans {w0 w w':World} (h:Late w0 w) (h':Late w w'):Late w0 w':=⟨qp h.1 h'.1,λk o h1 h2=>h'.2 k o (h.2 k o h1 h2) h2⟩
theorem Late.draws {w:World} {k:Nat} (h:w.drawn<=k):Late w {w with drawn:=k}:=⟨h,λ_ _ h _=>h⟩
theorem Late.alloc (w:World) (o:Obj):Late w (w.alloc o):=⟨di _,λk _ h _=>by
 have bc:k<w.heap.size:=(fo.1 h).1;unfold World.alloc;rw[Array.getElem?_push,bu G]
 exact h⟩
structure Hp (B:Nat) (w0 w:World) (R:List Row):Prop where
 below:Below B w0 w
 base:B<=w.heap.size
 own: ∀r∈R,r.lies B w
 apart:R.Pairwise Row.apart
 late:Late w0 w
theorem Hp.refl (w:World):Hp w.heap.size w w []:=⟨Fw _ _,di _,λ_ h=>(by cases h), .nil,Late.refl _⟩
theorem Hp.tail {B:Nat} {w0 w:World} {r:Row} {R:List Row} (h:Hp B w0 w (r::R)):Hp B w0 w R:=
 ⟨h.below,h.base,λq hq=>h.own q (.tail _ hq),(jb.1 h.apart).2,h.late⟩
theorem Hp.right {B:Nat} {w0 w:World} {R' R:List Row} (h:Hp B w0 w (R'++R)):Hp B w0 w R:=by
 induction R' with
 |nil=>exact h
 |cons r R' ih=>exact ih h.tail
theorem Hp.perm {B:Nat} {w0 w:World} {R R':List Row} (h:Hp B w0 w R) (hp:R.Perm R'):Hp B w0 w R':=
 ⟨h.below,h.base,λq hq=>h.own q (hp.mem_iff.2 hq),hp.pairwise h.apart Row.apart_symm,h.late⟩
theorem Hp.sublist {B:Nat} {w0 w:World} {R R':List Row} (h:Hp B w0 w R) (hs:R'.Sublist R):Hp B w0 w R':=
 ⟨h.below,h.base,λq hq=>h.own q (hs.subset hq),h.apart.sublist hs,h.late⟩
theorem Hp.sel {B:Nat} {w0 w:World} {R:List Row} (h:Hp B w0 w R) (is:List Nat) (hn:is.Nodup) {R':List Row} (hR:is.map (λi=>R[i]?)=R'.map some):Hp B w0 w R':=by
 refine⟨h.below,h.base,λq hq=> ?_,?_,h.late⟩
 ·have h1:some q∈R'.map some:=iy.2 ⟨q,hq,rfl⟩;rw[<-hR] at h1;obtain⟨i,_,hi⟩:=iy.1 h1;exact h.own q (gm hi)
 ·have h1:(R'.map some).Pairwise (λx y=> ∀r r',x=some r->y=some r'->Row.apart r r'):=by
   rw[<-hR];refine iw.2 (hn.imp ?_);intro i j dv r r' hi hj;rcases Cq dv with bc|bc
   ·exact dn.1 h.apart i j (dw.1 hi).1 (dw.1 hj).1 bc|>λhh=>by
     rw[(dw.1 hi).2,(dw.1 hj).2] at hh;exact hh
   ·exact Row.apart_symm (dn.1 h.apart j i (dw.1 hj).1 (dw.1 hi).1 bc|>λhh=>by
     rw[(dw.1 hi).2,(dw.1 hj).2] at hh;exact hh)
  exact(iw.1 h1).imp λhh=>hh _ _ rfl rfl
theorem Hp.drawn {B:Nat} {w0 w:World} {R:List Row} (h:Hp B w0 w R) (k:Nat) (hk:w.drawn<=k):Hp B w0 {w with drawn:=k} R:=
 ⟨⟨h.below.os,h.below.tape,h.below.output,h.below.size,h.below.block⟩,h.base,λr hr=>by
  have:=h.own r hr;unfold Row.lies at*
  cases ov:r.ro<;>simp only[ov] at this ⊢ <;>exact this,h.apart,h.late.trans (Late.draws hk)⟩
theorem Row.lies_cells {B:Nat} {w:World} {r:Row} (h:r.lies B w) {a:Addr} (ha:r.A=some a): ∃cs e fr,w.heap[a.block]? =some (.cells cs e fr):=by
 unfold Row.lies at h;cases ov:r.ro with
 | false=>
  simp only[ov] at h;rcases h.2 with⟨hv,_⟩|⟨g,cap,cur,hv,_,hg,_⟩
  ·simp only[kv] at hv;rw[hv.1] at ha;cases ha
  ·simp only[kv] at hv;rw[hv.1] at ha;obtain rfl:=jc ha;exact⟨_,_,_,hg⟩
 |true=>
  simp only[ov] at h;obtain⟨g,cur,fr,hA,_,hg,_⟩:=h;rw[hA] at ha;obtain rfl:=jc ha;exact⟨_,_,_,hg⟩
theorem Row.lies_of_block {B:Nat} {w w':World} {r:Row} (h:r.lies B w) (hk: ∀a,r.A=some a->w'.heap[a.block]? =w.heap[a.block]?):r.lies B w':=by
 unfold Row.lies at*;cases ov:r.ro with
 | false=>
  simp only[ov] at h ⊢;refine⟨h.1,?_⟩;rcases h.2 with hn|⟨g,cap,cur,hv,hb,hg,rest⟩
  ·exact .inl hn
  ·refine .inr ⟨g,cap,cur,hv,hb,?_,rest⟩;have hA:r.A=some ⟨g,0,none⟩:=by injection hv
   rw[hk _ hA];exact hg
 |true=>
  simp only[ov] at h ⊢;obtain⟨g,cur,fr,hA,hb,hg,rest⟩:=h;exact⟨g,cur,fr,hA,hb,by rw[hk _ hA];exact hg,rest⟩
theorem Row.lies_lt {B:Nat} {w:World} {r:Row} (h:r.lies B w): ∀a,r.A=some a->B<=a.block/\a.block<w.heap.size:=by
 intro a ha;unfold Row.lies at h;cases ov:r.ro with
 |false=>
  simp only[ov] at h;exact h.lt a.block (by simp[Value.ownBlock,ha])
 |true=>
  simp only[ov] at h;obtain⟨g,cur,fr,hA,hb,hg,_⟩:=h;rw[hA] at ha;obtain rfl:=jc ha;exact⟨hb,(fo.1 hg).1⟩
theorem Hp.join {B:Nat} {w0 w w':World} {R Rn:List Row} (h:Hp B w0 w R) (h':Hp w.heap.size w w' Rn):Hp B w0 w' (Rn++R):=by
 refine⟨h.below.trans (h'.below.mono h.base),qp h.base h'.base,λr hr=> ?_,?_,h.late.trans h'.late⟩
 ·rcases gp.1 hr with hr|hr
  ·have h1:=h'.own r hr;unfold Row.lies at*;cases ov:r.ro with
   |false=>
    simp only[ov] at h1 ⊢;refine⟨h1.1,?_⟩;rcases h1.2 with hn|⟨g,cap,cur,hv,hb,rest⟩
    ·exact .inl hn
    ·exact .inr ⟨g,cap,cur,hv,qp h.base hb,rest⟩
   |true=>
    simp only[ov] at h1 ⊢;obtain⟨g,cur,fr,hA,hb,rest⟩:=h1;exact⟨g,cur,fr,hA,qp h.base hb,rest⟩
  ·have h1:=h.own r hr;exact Row.lies_of_block h1 λa ha=>h'.below.block a.block (Row.lies_lt h1 a ha).2
 ·refine kz.2 ⟨h'.apart,h.apart,λr hr q hq a a' ha nc=> ?_⟩;have h1:=(Row.lies_lt (h'.own r hr) a ha).1;have h2:=(Row.lies_lt (h.own q hq) a' nc).2;omega
theorem NQ {α:Type}: ∀(a:Ask α) (w:World),w.drawn<=(w.ask a).2.drawn
 | .done _,_=>di _
 | .ask what range k,w=>by
  unfold World.ask;simp only;split
  ·exact NQ _ _
  ·exact qp (Ep _) (NQ _ {w with drawn:=w.drawn+1})
theorem aRj (w:World) (c:Sys):w.drawn<=(w.sys c).2.drawn:=by
 have h:=NQ (Kernel.perform c w.os) w;unfold World.sys;split
 ·exact di _
 ·rename_i he;rw[he] at h;exact h
theorem bCd {ε α β:Type} {x:Except ε α} {f:α->Except ε β} {r:β} (h:Except.bind x f= .ok r): ∃a,f a= .ok r:=by
 cases x with
 |error e=>cases h
 |ok a=>exact⟨a,h⟩
theorem aKs {P:Program} {w:World} {b a:Addr} {u:TypeId} {v:Value} {c:Bool} {r:World × List Addr} (h:w.viewStore P b u a v c= .ok r):r.1.drawn=w.drawn:=by
 unfold World.viewStore at h;simp only[bind,pure,Except.pure] at h
 repeat' first
  |(cases h;done)
  |(split at h)
  |(replace h:=bCd h;cases h;rename_i h)
 all_goals (simp only[Except.ok.injEq] at h;rw[<-h])
theorem aVl {P:Program} {w:World} {a:Addr} {v:Value} {b:Bool} {r:World × List Addr} (h:w.farStore P a v b= .ok r):r.1.drawn=w.drawn:=by
 unfold World.farStore at h;split at h
 ·split at h
  ·rename_i hv;simp only[Except.ok.injEq] at h;rw[<-h];exact aKs hv
  ·cases h
 ·cases h
theorem KC {α:Type} {P:Program}: ∀(m:Sem α) (w w':World) (a:α),m.run P w= .ok a w'->w.drawn<=w'.drawn:=by
  intro m
  induction m with
  |pure a=>intro w w' b h;simp only[Sem.run,Cn] at h;rw[h.2];exact di _
  | load m a k ih=>
    intro w w' b h;simp only[Sem.run] at h;split at h
    · exact ih _ _ _ _ h
    · split at h
      · exact ih _ _ _ _ h
      · cases h
  | store m a v k ih=>
    intro w w' b h;cases v<;>simp only[Sem.run] at h
    all_goals first
      |(cases h;done)
      | (split at h
         · split at h
           · cases h
           · have h1:=ih _ _ _ h
             exact h1
         · split at h
           · rename_i hf
             have h1:=ih _ _ _ h;have h2:=aVl hf;simp only at h2;rw[h2] at h1;exact h1
           · cases h)
  |new o k ih=>intro w w' b h;have h1:=ih w.heap.size {w with heap:=w.heap.push o} w' b h;exact h1
  |shape r k ih=>intro w w' b h;exact ih _ _ _ _ h
  | freeze a n k ih=>
    intro w w' b h;have:=ih _ _ _ h;have e:(w.freeze a n).drawn=w.drawn:=by unfold World.freeze;split<;>rfl
    rwa[e] at this
  |frozen a k ih=>intro w w' b h;exact ih _ _ _ _ h
  | getObj r k ih=>
    intro w w' b h;simp only[Sem.run] at h;split at h
    · cases h
    · exact ih _ _ _ _ h
    · cases h
  | setObj r o k ih=>
    intro w w' b h;simp only[Sem.run] at h;split at h
    · cases h
    · have h1:=ih _ _ _ h
      exact h1
    · cases h
  | choose q k ih=>
    intro w w' b h;simp only[Sem.run] at h;split at h
    · exact ih _ _ _ _ h
    · exact qp (Ep _) (ih _ _ _ _ h)
  | sys c k ih=>
    intro w w' b h;exact qp (aRj w c) (ih _ _ _ _ h)
  |program k ih=>intro w w' b h;exact ih _ _ _ _ h
  |mark m k ih=>intro w w' b h;exact ih _ _ _ h
  |halt x=>intro w w' b h;cases h
structure Rd (w:World) (A:Option Addr) (n c sz:Nat) (xs:List Value):Prop where
 len:xs.length=n*sz
 max:n<=9223372036854775807
 le:n<=c
 at_: ∀j v,xs[j]? =some v-> ∃a,A=some a/\w.cell? (a.add j)=some v
def RdC (B:Nat) (w0:World) (R:List Row) (A:Option Addr) (n c sz:Nat) (xs:List Value):Prop:= ∀w,Hp B w0 w R->Rd w A n c sz xs
theorem Rd.below {w w':World} {A:Option Addr} {n c sz:Nat} {xs:List Value} (h:Rd w A n c sz xs) (hb:Below w.heap.size w w'):Rd w' A n c sz xs:=
 ⟨h.len,h.max,h.le,λj v hv=>by
  obtain⟨a,ha,hc⟩:=h.at_ j v hv
  exact⟨a,ha,(hb.cell (World.block_lt_of_cell? w _ hc)).trans hc⟩⟩
theorem Rd.c {w:World} {A:Option Addr} {n c sz:Nat} {xs:List Value} (h:Rd w A n c sz xs) (R:List Row):RdC w.heap.size w R A n c sz xs:=λ_ hw=>h.below hw.below
theorem Row.rd {B:Nat} {w:World} {r:Row} (h:r.lies B w):Rd w r.A r.n r.c r.sz r.xs:=by
 unfold Row.lies at h;cases ov:r.ro with
 | false=>
  simp only[ov] at h;refine⟨h.1,?_,?_,λj v hv=> ?_⟩
  ·rcases h.2 with⟨_,hn⟩|⟨g,cap,cur,_,_,_,h1,h2,_⟩
   ·omega
   ·unfold maxLen at h2;omega
  ·rcases h.2 with⟨_,hn⟩|⟨g,cap,cur,hv,_,_,h1,h2,_⟩
   ·omega
   ·simp only[kv] at hv;omega
  ·rcases h.2 with⟨Px,hn⟩|⟨g,cap,cur,Px,_⟩
   ·have:r.xs.length=0:=by rw[h.1,hn];omega
    rw[mf G] at hv;cases hv
   ·have hA:r.A=some ⟨g,0,none⟩:=by injection Px
    exact⟨_,hA,h.cells (g:=g) (by simp[Value.ownBlock,hA]) j v hv⟩
 |true=>
  simp only[ov] at h;obtain⟨g,cur,fr,hA,_,hg,hm,hc,hl,ht⟩:=h;unfold maxLen at hm;refine⟨hl,hm,hc,λj v hv=>⟨_,hA,?_⟩⟩;have Kz:(⟨g,0,none⟩:Addr).add j=⟨g,j,none⟩:=by unfold Addr.add;split<;>simp_all
  rw[Kz,cell_of_row w g j cur r.e fr hg];rw[<-ht,ny] at hv;split at hv
  ·simpa using hv
  ·cases hv
theorem rdR {B:Nat} {w0:World} {R:List Row} (i:Nat) {r:Row} (hi:R[i]? =some r):RdC B w0 R r.A r.n r.c r.sz r.xs:=λ_ hw=>Row.rd (hw.own r (gm hi))
theorem rdr {B:Nat} {w0:World} {R:List Row} (i:Nat) {e sz:Nat} {A:Option Addr} {n c:Nat} {xs:List Value} {ro:Bool} (hi:R[i]? =some ⟨e,sz,A,n,c,xs,ro⟩):RdC B w0 R A n c sz xs:=rdR i hi
theorem RdC.right {B:Nat} {w0:World} {R:List Row} {A:Option Addr} {n c sz:Nat} {xs:List Value} (h:RdC B w0 R A n c sz xs) (R':List Row):RdC B w0 (R'++R) A n c sz xs:=λw hw=>h w hw.right
theorem RdC.tail {B:Nat} {w0:World} {R:List Row} {A:Option Addr} {n c sz:Nat} {xs:List Value} (h:RdC B w0 R A n c sz xs) {r:Row}:RdC B w0 (r::R) A n c sz xs:=λw hw=>h w hw.tail
structure fC where
 nrm:Env->List Row->Prop
 ret:Env->List Row->Prop
 ext:Nat->Env->List Row->Prop
section
variable {P:Program} {n:Nd} {B:Nat} {w0:World}
def PQ (n:Nd) (B:Nat) (w0:World) (Q:fC):Exit->Act->World->Prop
 | .normal,a,w=> ∃L R,Sat n L a/\Hp B w0 w R/\Q.nrm L R
 | .ret,a,w=> ∃L R,Sat n L a/\Hp B w0 w R/\Q.ret L R
 | .exit i,a,w=> ∃L R,Sat n L a/\Hp B w0 w R/\Q.ext i L R
 |_,_,_=>False
def W (P:Program) (n:Nd) (B:Nat) (w0:World) (c:Code) (Q:fC) (L:Env) (R:List Row):Prop:=
 ∀a w,Sat n L a->Hp B w0 w R->c.wpIn (NF n.rd) 0 P (PQ n B w0 Q) a w
theorem aD {x y:Code} {Q:fC} {L:Env} {R:List Row} (h:W P n B w0 x {Q with nrm:=λL R=>W P n B w0 y Q L R} L R):W P n B w0 (.seq x y) Q L R:=by
 intro a w hs hp;refine wpIn_seq (Ba (h a w hs hp) ?_);intro e a' w' hq;cases e with
 |normal=>obtain⟨L',R',ef,ci,hw⟩:=hq;exact hw a' w' ef ci
 |exit id=>exact hq
 |goto l=>exact hq
 |ret=>exact hq
 |panic ch=>exact hq
 |outgrown=>exact hq
theorem aH {id:Nat} {c:Code} {Q:fC} {L:Env} {R:List Row} (h:W P n B w0 c {Q with ext:=λi L R=>bif Nat.beq i id then Q.nrm L R else Q.ext i L R} L R):W P n B w0 (.block id c) Q L R:=by
 intro a w hs hp;refine wpIn_block (Ba (h a w hs hp) ?_);intro e a' w' hq;cases e with
 |normal=>exact hq
 | exit i=>
  obtain⟨L',R',ef,ci,hw⟩:=hq;simp only[Exit.inBlock];by_cases hi:i=id
  ·subst hi;rw[df rfl];exact⟨L',R',ef,ci,by simpa using hw⟩
  ·rw [bu hi]
   have hb:Nat.beq i id=false:=by
    cases hb:Nat.beq i id with
    |true=>exact absurd (yf hb) hi
    |false=>rfl
   dsimp only at hw;rw[hb] at hw;exact⟨L',R',ef,ci,hw⟩
 |goto l=>exact hq
 |ret=>exact hq
 |panic ch=>exact hq
 |outgrown=>exact hq
theorem aY {id:Nat} {Q:fC} {L:Env} {R:List Row} (h:Q.ext id L R):W P n B w0 (.exit id) Q L R:=
 λ_ _ hs hp=>wpIn_exit ⟨L,R,hs,hp,h⟩
theorem bW {Q:fC} {L:Env} {R:List Row} (h:Q.ret L R):W P n B w0 .ret Q L R:=λ_ _ hs hp=>wpIn_ret ⟨L,R,hs,hp,h⟩
theorem aL {Q:fC} {L:Env} {R:List Row} (h:Q.nrm L R):W P n B w0 .skip Q L R:=λ_ _ hs hp=>wpIn_skip ⟨L,R,hs,hp,h⟩
theorem JL {c:Operand} {x y:Code} {Q:fC} {L:Env} {R:List Row} {b:Bool} (hc:ev L c=some (.bool b)) (hx:b=true->W P n B w0 x Q L R) (hy:b=false->W P n B w0 y Q L R):W P n B w0 (.cond c x y) Q L R:=
 λa w hs hp=>wpIn_cond_split (hs.ev hc) (λhb=>hx hb a w hs hp) (λhb=>hy hb a w hs hp)
theorem bF {c:Operand} {x y:Code} {Q:fC} {L:Env} {R:List Row} {p:Prop} [Decidable p] (hc:ev L c=some (.bool (decide p))) (hx:p->W P n B w0 x Q L R) (hy: ¬p->W P n B w0 y Q L R):W P n B w0 (.cond c x y) Q L R:=
 JL hc (λh=>hx (Bg h)) (λh=>hy (of_decide_eq_false h))
theorem bH {c:Operand} {x y:Code} {Q:fC} {L:Env} {R:List Row} (hc:ev L c=some (.bool true)) (hx:W P n B w0 x Q L R):W P n B w0 (.cond c x y) Q L R:=JL hc (λ_=>hx) (λh=>by cases h)
theorem aJ {c:Operand} {x y:Code} {Q:fC} {L:Env} {R:List Row} (hc:ev L c=some (.bool false)) (hy:W P n B w0 y Q L R):W P n B w0 (.cond c x y) Q L R:=JL hc (λh=>by cases h) (λ_=>hy)
theorem aHi {c:Code} {Q:fC} {L L1:Env} {R R1:List Row} (hL:Sub L1 L) (hR: ∀w,Hp B w0 w R->Hp B w0 w R1) (h:W P n B w0 c Q L1 R1):W P n B w0 c Q L R:=
 λa w hs hp=>h a w (hs.sub hL) (hR w hp)
theorem iA {c:Code} {Q Q':fC} {L:Env} {R:List Row} (h:W P n B w0 c Q L R) (h1: ∀L R,Q.nrm L R->Q'.nrm L R) (h2: ∀L R,Q.ret L R->Q'.ret L R) (h3: ∀i L R,Q.ext i L R->Q'.ext i L R):W P n B w0 c Q' L R:=by
 intro a w hs hp;refine Ba (h a w hs hp) ?_;intro e a' w' hq;cases e with
 |normal=>obtain⟨L',R',ef,ci,hw⟩:=hq;exact⟨L',R',ef,ci,h1 _ _ hw⟩
 |exit id=>obtain⟨L',R',ef,ci,hw⟩:=hq;exact⟨L',R',ef,ci,h3 _ _ _ hw⟩
 |goto l=>exact hq
 |ret=>obtain⟨L',R',ef,ci,hw⟩:=hq;exact⟨L',R',ef,ci,h2 _ _ hw⟩
 |panic ch=>exact hq
 |outgrown=>exact hq
def Fam {σ:Type} (B:Nat) (w0:World) (Lx:σ->Env) (Rx:σ->List Row) (J:σ->Prop) (L:Env) (R:List Row):Prop:=
 ∃x,J x/\Sub (Lx x) L/\ ∀w,Hp B w0 w R->Hp B w0 w (Rx x)
theorem oZ {σ:Type} {c:Code} {Q:fC} {L:Env} {R:List Row} (Lx:σ->Env) (Rx:σ->List Row) (J:σ->Prop) (μ:σ->Nat)
  (h0:Fam B w0 Lx Rx J L R)
  (round: ∀x,J x->W P n B w0 c {Q with nrm:=Fam B w0 Lx Rx (λy=>J y/\μ y<μ x)} (Lx x) (Rx x)):W P n B w0 (.loop c) Q L R:=by
 intro a w hs hp;obtain⟨x0,v7,hL0,Nk⟩:=h0;refine wpIn_loop_ghost (λk a w=> ∃x,μ x=k/\J x/\Sat n (Lx x) a/\Hp B w0 w (Rx x)) (μ x0) ⟨x0,rfl,v7,hs.sub hL0,Nk w hp⟩ ?_;rintro k a w ⟨x,rfl,hJ,hs,hp⟩;refine Ba (round x hJ a w hs hp) ?_;intro e a' w' hq;cases e with
 |normal=>
  obtain⟨L',R',ef,ci,y,⟨hJy,bc⟩,hLy,hRy⟩:=hq;exact⟨μ y,bc,y,rfl,hJy,ef.sub hLy,hRy _ ci⟩
 |exit id=>exact hq
 |goto l=>exact hq
 |ret=>exact hq
 |panic ch=>exact hq
 |outgrown=>exact hq
def Ct (P:Program) (f:FuncId) (args:Array Value) (B:Nat) (w0:World) (R:List Row) (Post:Value->List Row->Prop):Prop:=
 ∀w,Hp B w0 w R->Calls P f args w λe w'=> ∃v R',e= .returned v/\Hp B w0 w' R'/\Post v R'
theorem Ct.mono {f:FuncId} {args:Array Value} {R:List Row} {Post zc:Value->List Row->Prop} (h:Ct P f args B w0 R Post) (hp: ∀v R',Post v R'->zc v R'):Ct P f args B w0 R zc:=
 λw hw=>(h w hw).mono λ_ _ ⟨v,R',he,hh,hv⟩=>⟨v,R',he,hh,hp _ _ hv⟩
theorem Ct.fresh {f:FuncId} {args:Array Value} {R:List Row} {Post:Value->List Row->Prop} (h: ∀w,Hp B w0 w R->Ct P f args w.heap.size w [] Post):
  Ct P f args B w0 R (λv R'=> ∃Rn,R'=Rn++R/\Post v Rn):=
 λw hw=>(h w hw w (Hp.refl w)).mono λ_ _ ⟨v,Rn,he,hh,hv⟩=>⟨v,Rn++R,he,hw.join hh,Rn,rfl,hv⟩
theorem Ct.sub {f:FuncId} {args:Array Value} {R R1:List Row} {Post:Value->List Row->Prop} (hR: ∀w,Hp B w0 w R->Hp B w0 w R1) (h:Ct P f args B w0 R1 Post):Ct P f args B w0 R Post:=
 λw hw=>h w (hR w hw)
def ini:Nat->List Value->Env
 |_,[]=>[]
 |k,v::vs=>(k,v)::ini (k+1) vs
theorem aEt: ∀(vs:List Value) (k t:Nat) (v:Value),lk (ini k vs) t=some v->k<=t/\vs[t-k]? =some v:=by
 intro vs
 induction vs with
 |nil=>intro k t v h;simp[ini,lk] at h
 | cons u us ih=>
  intro k t v h;rcases xP h with⟨rfl,rfl⟩|⟨_,hl⟩
  ·simp
  ·obtain ⟨h1,h2⟩:=ih (k+1) t v hl;refine⟨G,?_⟩;have:t-k=(t-(k+1))+1:=G
   rw[this];simpa using h2
theorem aJe {f:FuncId} {fn:Func} {c:Code} {args:List Value} {R:List Row} {Post:Value->List Row->Prop} (hf:P.funcs[f]? =some fn) (hb:fn.body=some c) (hl:Nat.ble args.length fn.ntmps=true)
  {Rt:Env->Option Value} (Lq: ∀L a w v,Sat fn.ntmps L a->Rt L=some v->(results fn a.tmps).run P w= .ok v w)
  (h:W P fn.ntmps B w0 c ⟨λL R'=> ∃v,Rt L=some v/\Post v R',λL R'=> ∃v,Rt L=some v/\Post v R',λ_ _ _=>False⟩ (ini 0 args) R):Ct P f args.toArray B w0 R Post:=by
 intro w hw;have vu:args.length<=fn.ntmps:=au hl;refine calls_of_wp hf hb (wp_mono (wpIn_wide.1 (h _ w ⟨cH,rfl,λt v ht=> ?_⟩ hw)) ?_)
 ·obtain ⟨_,h2⟩:=aEt args 0 t v ht;simp only[ze] at h2;have bc:=(dw.1 h2).1;rw[<-h2];simp[Bb,bc]
 ·intro e a' w' hq;cases e with
  |normal=>obtain⟨L',R',ef,ci,v,hv,po⟩:=hq;exact⟨ef.defers,v,Lq _ _ _ _ ef hv,v,R',rfl,ci,po⟩
  |ret=>obtain⟨L',R',ef,ci,v,hv,po⟩:=hq;exact⟨ef.defers,v,Lq _ _ _ _ ef hv,v,R',rfl,ci,po⟩
  |exit id=>obtain⟨_,_,_,_,h⟩:=hq;exact h.elim
  |goto l=>exact hq
  |panic ch=>exact hq.elim
  |outgrown=>exact hq.elim
theorem fn0 {f:FuncId} {fn:Func} {c:Code} {args:List Value} {R:List Row} {Post:Value->List Row->Prop} (hf:P.funcs[f]? =some fn) (hb:fn.body=some c) (hr:fn.results= #[]) (hl:Nat.ble args.length fn.ntmps=true)
  (h:W P fn.ntmps B w0 c ⟨λ_ R'=>Post (.tuple #[]) R',λ_ R'=>Post (.tuple #[]) R',λ_ _ _=>False⟩ (ini 0 args) R):Ct P f args.toArray B w0 R Post:=
 aJe hf hb hl (Rt:=λ_=>some (.tuple #[])) (λ_ _ _ v _ hv=>by obtain rfl:=jc hv;exact results_none hr _ _ _) (by simpa using h)
theorem fn1 {f:FuncId} {fn:Func} {c:Code} {args:List Value} {R:List Row} {Post:Value->List Row->Prop} {r:Nat} (hf:P.funcs[f]? =some fn) (hb:fn.body=some c) (hr:fn.results= #[.tmp r]) (hl:Nat.ble args.length fn.ntmps=true)
  (h:W P fn.ntmps B w0 c ⟨λL R'=> ∃v,lk L r=some v/\Post v R',λL R'=> ∃v,lk L r=some v/\Post v R',λ_ _ _=>False⟩ (ini 0 args) R):Ct P f args.toArray B w0 R Post:=
 aJe hf hb hl (Rt:=λL=>lk L r) (λ_ _ _ v hs hv=>by rw[results_tmp hr,hs.getD hv]) h
theorem fn2 {f:FuncId} {fn:Func} {c:Code} {args:List Value} {R:List Row} {Post:Value->List Row->Prop} {r s:Nat} (hf:P.funcs[f]? =some fn) (hb:fn.body=some c) (hr:fn.results= #[.tmp r, .tmp s]) (hl:Nat.ble args.length fn.ntmps=true)
  (h:W P fn.ntmps B w0 c ⟨λL R'=> ∃v u,lk L r=some v/\lk L s=some u/\Post (.tuple #[v,u]) R',λL R'=> ∃v u,lk L r=some v/\lk L s=some u/\Post (.tuple #[v,u]) R',λ_ _ _=>False⟩ (ini 0 args) R):Ct P f args.toArray B w0 R Post:=by
 refine aJe hf hb hl (Rt:=λL=>(lk L r).bind λv=>(lk L s).map λu=> .tuple #[v,u]) (λL a w v hs hv=> ?_) (iA h ?_ ?_ (λ_ _ _ h=>h))
 ·obtain ⟨x,hx,hv⟩:=Cx.1 hv;obtain⟨u,hu,rfl⟩:=il.1 hv;rw[results_tmp2 hr,hs.getD hx,hs.getD hu]
 ·rintro L R' ⟨v,u,hv,hu,hp⟩;exact⟨_,by simp[hv,hu],hp⟩
 ·rintro L R' ⟨v,u,hv,hu,hp⟩;exact⟨_,by simp[hv,hu],hp⟩
theorem fn3 {f:FuncId} {fn:Func} {c:Code} {args:List Value} {R:List Row} {Post:Value->List Row->Prop} {r s t:Nat} (hf:P.funcs[f]? =some fn) (hb:fn.body=some c) (hr:fn.results= #[.tmp r, .tmp s, .tmp t]) (hl:Nat.ble args.length fn.ntmps=true)
  (h:W P fn.ntmps B w0 c ⟨λL R'=> ∃v u x,lk L r=some v/\lk L s=some u/\lk L t=some x/\Post (.tuple #[v,u,x]) R',λL R'=> ∃v u x,lk L r=some v/\lk L s=some u/\lk L t=some x/\Post (.tuple #[v,u,x]) R',λ_ _ _=>False⟩ (ini 0 args) R):Ct P f args.toArray B w0 R Post:=by
 refine aJe hf hb hl (Rt:=λL=>(lk L r).bind λv=>(lk L s).bind λu=>(lk L t).map λx=> .tuple #[v,u,x]) (λL a w v hs hv=> ?_) (iA h ?_ ?_ (λ_ _ _ h=>h))
 ·obtain ⟨x,hx,hv⟩:=Cx.1 hv;obtain⟨u,hu,hv⟩:=Cx.1 hv;obtain⟨y,hy,rfl⟩:=il.1 hv;simp[results,hr,hs.val r x hx,hs.val s u hu,hs.val t y hy]
 ·rintro L R' ⟨v,u,x,hv,hu,hx,hp⟩;exact⟨_,by simp[hv,hu,hx],hp⟩
 ·rintro L R' ⟨v,u,x,hv,hu,hx,hp⟩;exact⟨_,by simp[hv,hu,hx],hp⟩
def WR (P:Program) (n:Nd) (B:Nat) (w0:World) (ops:Array Oper) (l:List Oper) (K:Env->List Row->Prop) (L:Env) (R:List Row):Prop:=
 ∀a w (Q:Exit->Act->World->Prop),Sat n L a->Hp B w0 w R->(∀a' w' L' R',Sat n L' a'->Hp B w0 w' R'->K L' R'->Q .normal a' w')->wpList P ops Q l a w
theorem WA {Q:fC}: ¬LetsOut (PQ n B w0 Q):=λ⟨_,_,h⟩=>h
theorem aN {id:Nat} {l:List Oper} {Q:fC} {L:Env} {R:List Row} (h:WR P n B w0 l.toArray l Q.nrm L R) (hd:yF n.rd l=true:=by exact rfl):W P n B w0 (.region id l.toArray false) Q L R:=
 λa w hs hp=>wpIn_region_lit (aEu WA l a w hd (h a w _ hs hp λ_ _ L' R' ef ci hk=>⟨L',R',ef,ci,hk⟩))
variable {ops:Array Oper} {l:List Oper} {K:Env->List Row->Prop} {L:Env} {R:List Row} {op:Op} {ty:TypeId} {pos:String} {mm:Array Edge}
theorem aA (h:K L R):WR P n B w0 ops [] K L R:=λ_ _ _ hs hp hq=>wpList_nil (hq _ _ L R hs hp h)
def Yl (P:Program) (n:Nd) (B:Nat) (w0:World) (op:Op) (ty:TypeId) (L:Env) (R:List Row) (v:Value):Prop:=
 ∀(a:Act) (w:World) (o:Oper),o.op=op->o.type=ty->Sat n L a->Hp B w0 w R->(execOp a.eval o).run P w= .ok (.value v) w
def Ac (P:Program) (n:Nd) (B:Nat) (w0:World) (op:Op) (ty:TypeId) (L:Env) (R:List Row) (Post:Value->List Row->Prop):Prop:=
 ∀(a:Act) (w:World) (o:Oper) (K:Act->World->Prop) (Q:Exit->Act->World->Prop),o.op=op->o.type=ty->Sat n L a->Hp B w0 w R->(∀v w' R',Hp B w0 w' R'->Post v R'->K (a.put o.dst v) w')->o.wp P a w K Q
theorem aCu {d:Nat} {v:Value} (hn:Nat.blt d n=true) (hy:Yl P n B w0 op ty L R v) (h:WR P n B w0 ops l K ((d,v)::L) R):WR P n B w0 ops ({dst:=some d,op:=op,type:=ty,pos:=pos,after:=mm,guard:=none}::l) K L R:=by
 intro a w Q hs hp hq;refine wpList_plain rfl λK' Ra=> ?_;unfold Oper.wp;rw[hy a w _ rfl rfl hs hp];exact Ra _ _ (h _ _ Q (hs.put hn v) hp hq)
theorem bNx {d:Nat} {Post:Value->List Row->Prop} (hn:Nat.blt d n=true) (ha:Ac P n B w0 op ty L R Post) (h: ∀v R',Post v R'->WR P n B w0 ops l K ((d,v)::L) R'):WR P n B w0 ops ({dst:=some d,op:=op,type:=ty,pos:=pos,after:=mm,guard:=none}::l) K L R:=by
 intro a w Q hs hp hq;refine wpList_plain rfl λK' Ra=> ?_;exact ha a w _ K' Q rfl rfl hs hp λv w' R' ci hv=>Ra _ _ (h v R' hv _ _ Q (hs.put hn v) ci hq)
theorem bY {Post:Value->List Row->Prop} (ha:Ac P n B w0 op ty L R Post) (h: ∀v R',Post v R'->WR P n B w0 ops l K L R'):WR P n B w0 ops ({dst:=none,op:=op,type:=ty,pos:=pos,after:=mm,guard:=none}::l) K L R:=by
 intro a w Q hs hp hq;refine wpList_plain rfl λK' Ra=> ?_;exact ha a w _ K' Q rfl rfl hs hp λv w' R' ci hv=>Ra _ _ (h v R' hv _ _ Q hs ci hq)
theorem lM {j d:Nat} {b:Bool} {a:Act} (hs:Sat n L a) (hj:(ops[j]?).bind (·.dst)=some d) (hb:lk L d=some (.bool b)):yielded ops a.tmps j=some b:=by
 unfold yielded;rw[hj];simp only[Option.bind_some];rw[hs.val d _ hb]
theorem aC {j d:Nat} {want:Bool} {dst:Option Nat} (hj:(ops[j]?).bind (·.dst)=some d) (hb:lk L d=some (.bool want)) (h:WR P n B w0 ops ({dst:=dst,op:=op,type:=ty,pos:=pos,after:=mm,guard:=none}::l) K L R):
  WR P n B w0 ops ({dst:=dst,op:=op,type:=ty,pos:=pos,after:=mm,guard:=some (j,want)}::l) K L R:=by
 intro a w Q hs hp hq;have h1:=h a w Q hs hp hq;have hy:=lM hs hj hb;unfold wpList at h1 ⊢;rw[df (by simp[Region.wanted])] at h1;rw[df (by simp[Region.wanted,hy])];exact h1
theorem aP {j d e:Nat} {want b:Bool} (hj:(ops[j]?).bind (·.dst)=some d) (hb:lk L d=some (.bool b)) (dv:(b==want)=false) (hn:Nat.blt e n=true) (h:WR P n B w0 ops l K ((e,undef)::L) R):
  WR P n B w0 ops ({dst:=some e,op:=op,type:=ty,pos:=pos,after:=mm,guard:=some (j,want)}::l) K L R:=by
 intro a w Q hs hp hq;have hy:=lM hs hj hb;unfold wpList
 have:Region.wanted {dst:=some e,op:=op,type:=ty,pos:=pos,after:=mm,guard:=some (j,want)} (yielded ops a.tmps)=false:=by
  simp only[Region.wanted,hy];cases b<;>cases want<;>simp_all
 rw[this];simp only[wh,xe];exact h _ _ Q (hs.put hn undef) hp hq
theorem xZ {j d:Nat} {a:Act} (hs:Sat n L a) (hj:(ops[j]?).bind (·.dst)=some d) (hb:lk L d=some undef):yielded ops a.tmps j=none:=by
 unfold yielded;rw[hj];simp only[Option.bind_some];rw[hs.val d _ hb];rfl
theorem dW {j d e:Nat} {want:Bool} (hj:(ops[j]?).bind (·.dst)=some d) (hb:lk L d=some undef) (hn:Nat.blt e n=true) (h:WR P n B w0 ops l K ((e,undef)::L) R):
  WR P n B w0 ops ({dst:=some e,op:=op,type:=ty,pos:=pos,after:=mm,guard:=some (j,want)}::l) K L R:=by
 intro a w Q hs hp hq;have hy:=xZ hs hj hb;unfold wpList
 have:Region.wanted {dst:=some e,op:=op,type:=ty,pos:=pos,after:=mm,guard:=some (j,want)} (yielded ops a.tmps)=false:=by
  simp[Region.wanted,hy]
 rw[this];simp only[wh,xe];exact h _ _ Q (hs.put hn undef) hp hq
theorem pU {d:Nat} {v:Value} (h:lk L d=some v):Sub ((d,v)::L) L:=by
 intro t u hu;rcases xP hu with⟨rfl,rfl⟩|⟨_,hl⟩
 ·exact h
 ·exact hl
theorem bV (d:Nat) {p:Prop} [Decidable p] (hb:lk L d=some (.bool (decide p))) (ht:p->WR P n B w0 ops l K ((d, .bool true)::L) R) (hf: ¬p->WR P n B w0 ops l K ((d, .bool false)::L) R):WR P n B w0 ops l K L R:=by
 intro a w Q hs hp hq;by_cases h:p
 ·exact ht h a w Q (hs.sub (pU (by rw[hb,nk h]))) hp hq
 ·exact hf h a w Q (hs.sub (pU (by rw[hb,oh h]))) hp hq
theorem dB {L1:Env} {R1:List Row} (hL:Sub L1 L) (hR: ∀w,Hp B w0 w R->Hp B w0 w R1) (h:WR P n B w0 ops l K L1 R1):WR P n B w0 ops l K L R:=
 λa w Q hs hp hq=>h a w Q (hs.sub hL) (hR w hp) hq
theorem bK {d:Nat} {u v:Value} (hu:u=v) (h:WR P n B w0 ops l K ((d,v)::L) R):WR P n B w0 ops l K ((d,u)::L) R:=by
 subst hu;exact h
theorem jC {R1:List Row} (hR:R=R1) (h:WR P n B w0 ops l K L R1):WR P n B w0 ops l K L R:=by
 subst hR;exact h
end
end Go.Eng
namespace Go.Eng
open Go Go.RowKit
section
variable {P:Program} {n:Nd} {B:Nat} {w0:World} {L:Env} {R:List Row} {ty:TypeId}
theorem aM {x:Operand} {v:Value} (h:ev L x=some v):Yl P n B w0 (.move x) ty L R v:=by
 intro a w o ho _ hs _;simp[execOp,ho,hs.ev h]
theorem bG {x:Operand} {v:Value} (h:ev L x=some v):Yl P n B w0 (.assign x) ty L R v:=by
 intro a w o ho _ hs _;simp[execOp,ho,hs.ev h]
theorem aQa {c x y:Operand} {b:Bool} {v u:Value} (hc:ev L c=some (.bool b)) (hx:b=true->ev L x=some v) (hy:b=false->ev L y=some u):Yl P n B w0 (.pick c x y) ty L R (bif b then v else u):=by
 intro a w o ho _ hs _;cases b with
 |true=>simp[execOp,ho,hs.ev hc,hs.ev (hx rfl),asBool]
 |false=>simp[execOp,ho,hs.ev hc,hs.ev (hy rfl),asBool]
theorem bB {c x y:Operand} {v:Value} (hc:ev L c=some (.bool true)) (hx:ev L x=some v):Yl P n B w0 (.pick c x y) ty L R v:=
 aQa (b:=true) (u:=undef) hc (λ_=>hx) (λh=>by cases h)
theorem aS {c x y:Operand} {v:Value} (hc:ev L c=some (.bool false)) (hy:ev L y=some v):Yl P n B w0 (.pick c x y) ty L R v:=
 aQa (b:=false) (v:=undef) hc (λh=>by cases h) (λ_=>hy)
theorem aQ {x:Operand} {t e:TypeId} {A:Option Addr} {m c:Nat} (ht:P.underlying t=some (.slice e)) (hx:ev L x=some (.slice A m c)):Yl P n B w0 (.call {callee:= .builtin .len,args:= #[x],argTypes:= #[t]}) ty L R (.int .i64 (m:Int)):=by
 intro a w o ho _ hs _;simp[execOp,ho,resolve,invoke,builtin,Builtin.len_,mh ht,hs.ev hx,goInt]
theorem rV {x y:Operand} {ts:Array TypeId} {k:IntKind} {p q:Int} (hx:ev L x=some (.int k p)) (hy:ev L y=some (.int k q)):Yl P n B w0 (.call {callee:= .builtin .min,args:= #[x,y],argTypes:=ts}) ty L R (.int k (min p q)):=by
 intro a w o ho _ hs _;have:(if q<p then q else p)=min p q:=G
 simp[execOp,ho,resolve,invoke,builtin,Builtin.min_,Builtin.min2,hs.ev hx,hs.ev hy,this]
theorem aQc {x y:Operand} {ts:Array TypeId} {k:IntKind} {p q:Int} (hx:ev L x=some (.int k p)) (hy:ev L y=some (.int k q)):Yl P n B w0 (.call {callee:= .builtin .max,args:= #[x,y],argTypes:=ts}) ty L R (.int k (max p q)):=by
 intro a w o ho _ hs _;have:(if p<q then q else p)=max p q:=G
 simp[execOp,ho,resolve,invoke,builtin,Builtin.max_,Builtin.max2,hs.ev hx,hs.ev hy,this]
theorem aX {x y:Operand} {t u:TypeId} {k:IntKind} {p q:Int} (hx:ev L x=some (.int k p)) (hy:ev L y=some (.int k q)):Yl P n B w0 (.binOp .eql t x y u) ty L R (.bool (decide (p=q))):=by
 intro a w o ho _ hs _;have:(p==q)=decide (p=q):=by by_cases h:p=q<;>simp[h]
 simp[execOp,ho,binOp,eqGuard,hs.ev hx,hs.ev hy,Op.intCmp,this]
theorem gU {x y:Operand} {t u:TypeId} {k:IntKind} {p q:Int} (hx:ev L x=some (.int k p)) (hy:ev L y=some (.int k q)):Yl P n B w0 (.binOp .neq t x y u) ty L R (.bool (decide (p≠q))):=by
 intro a w o ho _ hs _;have:(p !=q)=decide (p≠q):=by by_cases h:p=q<;>simp[h]
 simp[execOp,ho,binOp,eqGuard,hs.ev hx,hs.ev hy,Op.intCmp,this]
theorem eG {x y:Operand} {t u:TypeId} {k:IntKind} {p q:Int} (hx:ev L x=some (.int k p)) (hy:ev L y=some (.int k q)):Yl P n B w0 (.binOp .lss t x y u) ty L R (.bool (decide (p<q))):=by
 intro a w o ho _ hs _;simp[execOp,ho,binOp,eqGuard,hs.ev hx,hs.ev hy,Op.intCmp]
theorem qU {x y:Operand} {t u:TypeId} {k:IntKind} {p q:Int} (hx:ev L x=some (.int k p)) (hy:ev L y=some (.int k q)):Yl P n B w0 (.binOp .leq t x y u) ty L R (.bool (decide (p<=q))):=by
 intro a w o ho _ hs _;simp[execOp,ho,binOp,eqGuard,hs.ev hx,hs.ev hy,Op.intCmp]
theorem dJ {x y:Operand} {t u:TypeId} {k:IntKind} {p q:Int} (hx:ev L x=some (.int k p)) (hy:ev L y=some (.int k q)):Yl P n B w0 (.binOp .gtr t x y u) ty L R (.bool (decide (q<p))):=by
 intro a w o ho _ hs _;simp[execOp,ho,binOp,eqGuard,hs.ev hx,hs.ev hy,Op.intCmp]
theorem gZ {x y:Operand} {t u:TypeId} {k:IntKind} {p q:Int} (hx:ev L x=some (.int k p)) (hy:ev L y=some (.int k q)):Yl P n B w0 (.binOp .geq t x y u) ty L R (.bool (decide (q<=p))):=by
 intro a w o ho _ hs _;simp[execOp,ho,binOp,eqGuard,hs.ev hx,hs.ev hy,Op.intCmp]
theorem aQg {x y:Operand} {t u:TypeId} {k:IntKind} {p q:Int} (hx:ev L x=some (.int k p)) (hy:ev L y=some (.int k q)):Yl P n B w0 (.binOp .add t x y u) ty L R (.int k (k.wrap (p+q))):=by
 intro a w o ho _ hs _;simp[execOp,ho,binOp,eqGuard,hs.ev hx,hs.ev hy,Op.intArith]
theorem bDj {x y:Operand} {t u:TypeId} {k:IntKind} {p q:Int} (hx:ev L x=some (.int k p)) (hy:ev L y=some (.int k q)):Yl P n B w0 (.binOp .sub t x y u) ty L R (.int k (k.wrap (p-q))):=by
 intro a w o ho _ hs _;simp[execOp,ho,binOp,eqGuard,hs.ev hx,hs.ev hy,Op.intArith]
theorem bDm {x y:Operand} {t u:TypeId} {k:IntKind} {p q:Int} (hx:ev L x=some (.int k p)) (hy:ev L y=some (.int k q)):Yl P n B w0 (.binOp .mul t x y u) ty L R (.int k (k.wrap (p*q))):=by
 intro a w o ho _ hs _;simp[execOp,ho,binOp,eqGuard,hs.ev hx,hs.ev hy,Op.intArith]
theorem zP {p:Int} (h: -9223372036854775808<=p/\p<=9223372036854775807):IntKind.i64.wrap p=p:=by rw[Bp];omega
theorem dG {x y:Operand} {t u:TypeId} {p q:Int} (hx:ev L x=some (.int .i64 p)) (hy:ev L y=some (.int .i64 q)) (h: -9223372036854775808<=p+q/\p+q<=9223372036854775807:=by omega):Yl P n B w0 (.binOp .add t x y u) ty L R (.int .i64 (p+q)):=by
 have:=aQg (P:=P) (n:=n) (B:=B) (w0:=w0) (R:=R) (ty:=ty) (t:=t) (u:=u) hx hy;rwa[zP h] at this
theorem iK {x y:Operand} {t u:TypeId} {p q:Int} (hx:ev L x=some (.int .i64 p)) (hy:ev L y=some (.int .i64 q)) (h: -9223372036854775808<=p-q/\p-q<=9223372036854775807:=by omega):Yl P n B w0 (.binOp .sub t x y u) ty L R (.int .i64 (p-q)):=by
 have:=bDj (P:=P) (n:=n) (B:=B) (w0:=w0) (R:=R) (ty:=ty) (t:=t) (u:=u) hx hy;rwa[zP h] at this
theorem iV {x y:Operand} {t u:TypeId} {p q:Int} (hx:ev L x=some (.int .i64 p)) (hy:ev L y=some (.int .i64 q)) (h: -9223372036854775808<=p*q/\p*q<=9223372036854775807:=by omega):Yl P n B w0 (.binOp .mul t x y u) ty L R (.int .i64 (p*q)):=by
 have:=bDm (P:=P) (n:=n) (B:=B) (w0:=w0) (R:=R) (ty:=ty) (t:=t) (u:=u) hx hy;rwa[zP h] at this
theorem uN {x y:Operand} {t u:TypeId} {k:IntKind} {p q:Int} (hx:ev L x=some (.int k p)) (hy:ev L y=some (.int k q)) (h0:0<=p:=by omega) (h:0<q:=by omega):Yl P n B w0 (.binOp .rem t x y u) ty L R (.int k (p%q)):=by
 intro a w o ho _ hs _;have h1: ¬q=0:=G
 simp[execOp,ho,binOp,eqGuard,hs.ev hx,hs.ev hy,Op.intDiv,h1,Int.tmod_eq_emod_of_nonneg h0]
theorem bDk {x y:Operand} {t u:TypeId} {k:IntKind} {p q:Int} (hx:ev L x=some (.int k p)) (hy:ev L y=some (.int k q)) (h0:0<=p) (h:0<q):Yl P n B w0 (.binOp .quo t x y u) ty L R (.int k (k.wrap (p/q))):=by
 intro a w o ho _ hs _;have h1: ¬q=0:=G
 simp[execOp,ho,binOp,eqGuard,hs.ev hx,hs.ev hy,Op.intDiv,h1,Int.tdiv_eq_ediv_of_nonneg h0]
theorem DR {x y:Operand} {t u:TypeId} {p q:Int} (hx:ev L x=some (.int .i64 p)) (hy:ev L y=some (.int .i64 q)) (h0:0<=p) (h:0<q) (hm:p<=9223372036854775807):Yl P n B w0 (.binOp .quo t x y u) ty L R (.int .i64 (p/q)):=by
 have:=bDk (P:=P) (n:=n) (B:=B) (w0:=w0) (R:=R) (ty:=ty) (t:=t) (u:=u) hx hy h0 h;have h1:p/q<=p:=Hz q h0;have h2:0<=p/q:=Es h0 G;rwa[zP G] at this
theorem dU {x:Operand} {t:TypeId} {b:Bool} (hx:ev L x=some (.bool b)):Yl P n B w0 (.unOp .not t x) ty L R (.bool !b):=by
 intro a w o ho _ hs _;simp[execOp,ho,hs.ev hx,Op.unary]
theorem DT {x:Operand} {t:TypeId} {p:Prop} [Decidable p] (hx:ev L x=some (.bool (decide p))):Yl P n B w0 (.unOp .not t x) ty L R (.bool (decide (¬p))):=by
 have:=dU (P:=P) (n:=n) (B:=B) (w0:=w0) (R:=R) (ty:=ty) (t:=t) hx;rwa[show(!decide p)=decide (¬p) by simp] at this
theorem mI {x:Operand} {s d:TypeId} {k j:IntKind} {p:Int} {td:TypeDesc} (ef:P.underlying s=some td) (hd:P.underlying d=some (.int k)) (hx:ev L x=some (.int j p)):Yl P n B w0 (.convert s d x) ty L R (.int k (k.wrap p)):=by
 intro a w o ho _ hs _;simp[execOp,ho,convert,mh ef,mh hd,hs.ev hx,Conv.intToInt]
theorem iF {x:Operand} {s d:TypeId} {j:IntKind} {p:Int} {td:TypeDesc} (ef:P.underlying s=some td) (hd:P.underlying d=some (.int .i64)) (hx:ev L x=some (.int j p)) (h: -9223372036854775808<=p/\p<=9223372036854775807:=by omega):Yl P n B w0 (.convert s d x) ty L R (.int .i64 p):=by
 have:=mI (P:=P) (n:=n) (B:=B) (w0:=w0) (R:=R) (ty:=ty) ef hd hx;rwa[zP h] at this
end
end Go.Eng
namespace Go.Eng
open Go Go.RowKit
def pat (A:Option Addr) (j:Nat):Option Addr:=A.map (·.add j)
theorem add_add (a:Addr) (i j:Nat):(a.add i).add j=a.add (i+j):=by
 unfold Addr.add;by_cases h1:i=0<;>by_cases h2:j=0<;>simp[h1,h2,mr]
theorem BG (A:Option Addr):pat A 0=A:=by cases A<;>simp[pat,Addr.add]
def rd (l:List Int) (i:Int):Int:=l.getD i.toNat 0
def ints (k:IntKind) (l:List Int):List Value:=l.map (Value.int k)
theorem cZ (k:IntKind) (l:List Int):(ints k l).length=l.length:=by simp[ints]
theorem ints_at {k:IntKind} {l:List Int} {i:Int} (h0:0<=i) (h:i<l.length):(ints k l)[i.toNat]? =some (.int k (rd l i)):=by
 have hl:i.toNat<l.length:=G
 simp[ints,rd,ai,av hl]
def DC:TypeDesc->Bool
 | .struct _=>true
 | .array _ _=>true
 |_=>false
section
variable {P:Program} {n:Nd} {B:Nat} {w0:World} {L:Env} {R:List Row} {ty:TypeId}
theorem QG {t:TypeId} {d:TypeDesc} (hu:P.underlying t=some d) (w:World):(isAgg t).run P w= .ok (DC d) w:=by
 simp only[isAgg,kg,mh hu,jv];cases d<;>rfl
theorem Rd.cell {w:World} {A:Option Addr} {m c sz:Nat} {xs:List Value} (h:Rd w A m c sz xs) {j:Nat} {v:Value} (hv:xs[j]? =some v): ∃a,pat A j=some a/\w.cell? a=some v:=by
 obtain⟨a,rfl,hc⟩:=h.at_ j v hv;exact⟨_,rfl,hc⟩
theorem fA {x ix:Operand} {t e:TypeId} {k:IntKind} {A:Option Addr} {m c sz:Nat} {i:Int} {xs:List Value} (ht:P.underlying t=some (.slice e)) (hi:(P.info? e).map (·.size)=some sz) (hx:ev L x=some (.slice A m c)) (rr:ev L ix=some (.int k i))
  (hr:RdC B w0 R A m c sz xs) (hsz:Nat.blt 0 sz=true) (h0:0<=i:=by omega) (h1:i<m:=by omega):Yl P n B w0 (.indexAddr t x ix) ty L R (.pointer (pat A (i.toNat*sz))):=by
 intro a w o ho _ hs hp;have ij:=hr w hp;obtain⟨i0,ar,hsz0⟩:=il.1 hi
 have bc:i.toNat*sz<xs.length:=by
  rw[ij.len];exact Nat.mul_lt_mul_of_pos_right G (au hsz)
 obtain⟨ad,rfl,_⟩:=ij.at_ (i.toNat*sz) xs[i.toNat*sz] (by simp[bc]);simp[execOp,ho,Instr.indexAt,hs.ev hx,hs.ev rr,asIntOf,mh ht,h0,h1,sizeOf,typeInfo,ar,hsz0,pat]
theorem aI {x ix:Operand} {t e:TypeId} {k:IntKind} {A:Option Addr} {m c:Nat} {i:Int} {xs:List Value} (ht:P.underlying t=some (.slice e)) (hi:(P.info? e).map (·.size)=some 1) (hx:ev L x=some (.slice A m c)) (rr:ev L ix=some (.int k i))
  (hr:RdC B w0 R A m c 1 xs) (h0:0<=i:=by omega) (h1:i<m:=by omega):Yl P n B w0 (.indexAddr t x ix) ty L R (.pointer (pat A i.toNat)):=by
 have:=fA (n:=n) (ty:=ty) ht hi hx rr hr rfl h0 h1;rwa[qw] at this
theorem yJ {x ix:Operand} {t e:TypeId} {k:IntKind} {p A:Option Addr} {m c sz Vm N j0:Nat} {i:Int} {xs:List Value} (ht:P.underlying t=some (.array N e)) (hi:(P.info? e).map (·.size)=some sz) (hx:ev L x=some (.pointer p)) (Lm:p=pat A j0) (rr:ev L ix=some (.int k i))
  (hr:RdC B w0 R A m c Vm xs) (bc:j0<xs.length) (h0:0<=i) (h1:i<N):Yl P n B w0 (.indexAddr t x ix) ty L R (.pointer (pat A (j0+i.toNat*sz))):=by
 intro a w o ho _ hs hp;have ij:=hr w hp;obtain⟨i0,ar,hsz0⟩:=il.1 hi;obtain⟨ad,rfl,_⟩:=ij.at_ j0 xs[j0] (by simp[bc]);subst Lm;simp[execOp,ho,Instr.indexAt,Instr.sureAddr,hs.ev hx,hs.ev rr,asIntOf,mh ht,h0,h1,sizeOf,typeInfo,ar,hsz0,pat,add_add]
theorem qV {x:Operand} {t:TypeId} {d:TypeDesc} {p A:Option Addr} {j m c sz:Nat} {xs:List Value} {v:Value} (hu:P.underlying t=some d) (hd:DC d=false) (hx:ev L x=some (.pointer p)) (hp:p=pat A j) (hr:RdC B w0 R A m c sz xs) (hv:xs[j]? =some v):
  Yl P n B w0 (.load t x) ty L R v:=by
 intro a w o ho _ hs hw;obtain⟨ad,h1,h2⟩:=(hr w hw).cell hv;subst hp;simp[execOp,ho,Instr.loadAt,Instr.sureAddr,hs.ev hx,h1,loadVar,QG hu,hd,h2]
theorem aW {x:Operand} {t:TypeId} {d:TypeDesc} {A:Option Addr} {m c:Nat} {k:IntKind} {l:List Int} {i:Int} (hu:P.underlying t=some d) (hd:DC d=false) (hx:ev L x=some (.pointer (pat A i.toNat))) (hr:RdC B w0 R A m c 1 (ints k l)) (h0:0<=i:=by omega) (h1:i<m:=by omega):
  Yl P n B w0 (.load t x) ty L R (.int k (rd l i)):=by
 intro a w o ho i7 hs hw;have hl:=(hr w hw).len;rw[cZ] at hl;exact qV hu hd hx rfl hr (ints_at h0 G) a w o ho i7 hs hw
theorem aHh {x:Operand} {t:TypeId} {d:TypeDesc} {p A:Option Addr} {j m c sz st:Nat} {xs:List Value} (hu:P.underlying t=some d) (hd:DC d=true) (gv:(P.info? t).map (·.size)=some st) (hx:ev L x=some (.pointer p)) (hp:p=pat A j) (hr:RdC B w0 R A m c sz xs) (hj:j+st<=xs.length) (Jj:0<st):
  Yl P n B w0 (.load t x) ty L R (.agg ((xs.drop j).take st).toArray):=by
 intro a w o ho _ hs hw;have ij:=hr w hw;obtain⟨i0,ar,hsz0⟩:=il.1 gv;obtain⟨ad,rfl,_⟩:=ij.at_ j xs[j] cD;subst hp
 have hc:(loadCells (ad.add j) st).run P w= .ok ((xs.drop j).take st).toArray w:=by
  have:=run_loadCells_list (P:=P) w (ad.add j) ((xs.drop j).take st) (λq v hq=>by
   have Oo:xs[j+q]? =some v:=by
    rw[ny] at hq;split at hq
    ·simpa using hq
    ·cases hq
   obtain⟨a',nc,hc⟩:=ij.at_ _ _ Oo;obtain rfl:=jc nc
   rw[add_add];exact hc)
  have hl:((xs.drop j).take st).length=st:=cH
  rwa[hl] at this
 simp[execOp,ho,Instr.loadAt,Instr.sureAddr,hs.ev hx,pat,loadVar,QG hu,hd,sizeOf,typeInfo,ar,hsz0,hc]
theorem uW {x:Operand} {t:TypeId} {fs:Array Field} {f:Field} {k st:Nat} {a0:Addr} (hu:P.underlying t=some (.struct fs)) (hf:fs[k]? =some f) (gv:(P.info? f.type).map (·.size)=some st) (Jj:Nat.blt 0 st=true) (hx:ev L x=some (.pointer (some a0))):
  Yl P n B w0 (.fieldAddr t x k) ty L R (.pointer (some (a0.add f.offset))):=by
 intro a w o ho _ hs _;obtain⟨i0,ar,hsz0⟩:=il.1 gv;have: ¬st=0:=by have:=au Jj;omega
 simp[execOp,ho,Instr.fieldAt,Instr.sureAddr,hs.ev hx,mh hu,hf,fieldPlace,sizeOf,typeInfo,ar,hsz0,this]
theorem aG {x:Operand} {a0:Addr} (hx:ev L x=some (.pointer (some a0))):Yl P n B w0 (.nilCheck x) ty L R (.pointer (some a0)):=by
 intro a w o ho _ hs _;simp[execOp,ho,hs.ev hx]
theorem gY {x:Operand} {i:Nat} {vs:Array Value} {v:Value} (hx:ev L x=some (.tuple vs)) (hv:vs[i]? =some v):Yl P n B w0 (.extract x i) ty L R v:=by
 intro a w o ho _ hs _;simp[execOp,ho,hs.ev hx,Instr.extract,hv]
def evs (L:Env):List Operand->Option (List Value)
 |[]=>some []
 |x::r=>match ev L x,evs L r with
  |some v,some vs=>some (v::vs)
  |_,_=>none
theorem Sat.evs {a:Act} (hs:Sat n L a): ∀ {xs:List Operand} {vs:List Value},evs L xs=some vs->xs.map a.eval=vs
 |[],vs,h=>by simpa [Eng.evs] using h
 | x::r,vs,h=>by
  unfold Eng.evs at h;split at h
  ·rename_i v us h1 h2;obtain rfl:=jc h;rw[lm,hs.ev h1,hs.evs h2]
  ·cases h
theorem lN {fn:Fn} {ps cs:List Operand} {vs us:List Value} (h1:evs L ps=some vs) (h2:evs L cs=some us):Yl P n B w0 (.makeFunc fn ps.toArray cs.toArray) ty L R (.func fn vs.toArray us.toArray):=by
 intro a w o ho _ hs _;have e1:=hs.evs h1;have e2:=hs.evs h2;simp[execOp,ho,Instr.makeFunc,e1,e2]
def jA (A:Option Addr) (l c sz:Nat):Option Addr:=if c=l then A else A.map (·.add (l*sz))
theorem bGf {w:World} {A:Option Addr} {m sz c l h:Nat} {xs:List Value} (hr:Rd w A m c sz xs) (h1:l<=h) (h2:h<=m):Rd w (jA A l c sz) (h-l) (c-l) sz ((xs.drop (l*sz)).take ((h-l)*sz)):=by
 have hc:=hr.le;have e1:h*sz=l*sz+(h-l)*sz:=by rw[<-xz];congr 1;omega
 have e2:h*sz<=m*sz:=uq _ h2;refine⟨?_,by have:=hr.max;omega,G,λj v hv=> ?_⟩
 ·rw[ax,ay,hr.len];omega
 ·rw [ny] at hv;split at hv
  ·rename_i hj;have Px:xs[l*sz+j]? =some v:=by simpa using hv
   obtain⟨a,rfl,qq⟩:=hr.at_ _ _ Px;unfold jA;by_cases kx:c=l
   ·have:h=l:=G
    subst this;simp at hj
   ·rw [bu kx];exact⟨_,rfl,by rw[add_add];exact qq⟩
  ·cases hv
theorem RdC.cut {A:Option Addr} {m sz c l h:Nat} {xs:List Value} (hr:RdC B w0 R A m c sz xs) (h1:l<=h) (h2:h<=m):RdC B w0 R (jA A l c sz) (h-l) (c-l) sz ((xs.drop (l*sz)).take ((h-l)*sz)):=
 λw hw=>bGf (hr w hw) h1 h2
theorem RdC.cutI {A:Option Addr} {m c l h:Nat} {k:IntKind} {xs:List Int} (hr:RdC B w0 R A m c 1 (ints k xs)) (h1:l<=h) (h2:h<=m):RdC B w0 R (jA A l c 1) (h-l) (c-l) 1 (ints k ((xs.drop l).take (h-l))):=by
 have:=hr.cut h1 h2;simpa [ints,Cg,Ho] using this
theorem RdC.fromI {A:Option Addr} {m c l:Nat} {k:IntKind} {xs:List Int} (hr:RdC B w0 R A m c 1 (ints k xs)) (h1:l<=m):RdC B w0 R (jA A l c 1) (m-l) (c-l) 1 (ints k (xs.drop l)):=by
 intro w hw;have:=hr.cutI h1 (di m) w hw;have hl:=(hr w hw).len;rw[cZ] at hl;rwa[bn (by rw[ay];omega)] at this
theorem RdC.to {A:Option Addr} {m c h sz:Nat} {xs:List Value} (hr:RdC B w0 R A m c sz xs) (h2:h<=m):RdC B w0 R A h c sz (xs.take (h*sz)):=by
 intro w hw;have ij:=hr w hw;have hl:=ij.len;have ph:h*sz<=m*sz:=uq _ h2;refine⟨by rw[ax];omega,by have:=ij.max;omega,by have:=ij.le;omega,λj v hv=> ?_⟩;refine ij.at_ j v ?_;rw[ny] at hv;split at hv
 ·exact hv
 ·cases hv
theorem RdC.toI {A:Option Addr} {m h c:Nat} {k:IntKind} {xs:List Int} (hr:RdC B w0 R A m c 1 (ints k xs)) (h2:h<=m):RdC B w0 R A h c 1 (ints k (xs.take h)):=by
 have:=hr.to h2;simpa [ints,Cg] using this
theorem aHf {x y z:Operand} {t e:TypeId} {A:Option Addr} {m c sz:Nat} {k1 k2:IntKind} {l h:Int} (ht:P.underlying t=some (.slice e)) (hi:(P.info? e).map (·.size)=some sz) (hx:ev L x=some (.slice A m c)) (hy:ev L y=some (.int k1 l)) (hz:ev L z=some (.int k2 h)) {xs:List Value} (hr:RdC B w0 R A m c sz xs) (h0:0<=l) (h1:l<=h) (h2:h<=m):
  Yl P n B w0 (.slice t x (some y) (some z) none) ty L R (.slice (jA A l.toNat c sz) (h.toNat-l.toNat) (c-l.toNat)):=by
 intro a w o ho _ hs hp;have ph:=(hr w hp).le;obtain⟨i0,ar,hsz0⟩:=il.1 hi;have te:P.elem t=e:=by simp[Program.elem,ht]
 have rg:P.underlying t=some (.slice (P.elem t)):=by rw[te];exact ht
 simp only[execOp,ho,ky,Ar,hs.ev hx,hs.ev hy,hs.ev hz,kg,zz w t _ _ _ _ rg,run_slice_lh w t A m c rg k1 k2 l h h0 h1 G,te];simp[sizeOf,typeInfo,ar,hsz0,sliced,jA]
theorem dK {x y:Operand} {t e:TypeId} {A:Option Addr} {m c sz:Nat} {k1:IntKind} {l:Int} (ht:P.underlying t=some (.slice e)) (hi:(P.info? e).map (·.size)=some sz) (hx:ev L x=some (.slice A m c)) (hy:ev L y=some (.int k1 l)) (h0:0<=l:=by omega) (h1:l<=m:=by omega):
  Yl P n B w0 (.slice t x (some y) none none) ty L R (.slice (jA A l.toNat c sz) (m-l.toNat) (c-l.toNat)):=by
 intro a w o ho _ hs _;obtain⟨i0,ar,hsz0⟩:=il.1 hi;have te:P.elem t=e:=by simp[Program.elem,ht]
 have rg:P.underlying t=some (.slice (P.elem t)):=by rw[te];exact ht
 simp only[execOp,ho,ky,Ar,hs.ev hx,hs.ev hy,kg,zz w t _ _ _ _ rg,run_slice_l w t A m c rg k1 l h0 h1,te];simp[sizeOf,typeInfo,ar,hsz0,sliced,jA]
theorem dO {x z:Operand} {t e:TypeId} {A:Option Addr} {m c sz:Nat} {k2:IntKind} {h:Int} (ht:P.underlying t=some (.slice e)) (hi:(P.info? e).map (·.size)=some sz) (hx:ev L x=some (.slice A m c)) (hz:ev L z=some (.int k2 h)) {xs:List Value} (hr:RdC B w0 R A m c sz xs) (h0:0<=h:=by omega) (h2:h<=m:=by omega):
  Yl P n B w0 (.slice t x none (some z) none) ty L R (.slice A h.toNat c):=by
 intro a w o ho _ hs hp;have ph:=(hr w hp).le;obtain⟨i0,ar,hsz0⟩:=il.1 hi;have te:P.elem t=e:=by simp[Program.elem,ht]
 have rg:P.underlying t=some (.slice (P.elem t)):=by rw[te];exact ht
 simp only[execOp,ho,ky,Ar,hs.ev hx,hs.ev hz,kg,zz w t _ _ _ _ rg,run_slice_h w t A m c rg k2 h h0 G,te]
 have:(if c=0 then A else Option.map (λx=>x.add 0) A)=A:=by
  split
  ·rfl
  ·exact BG A
 simp[sizeOf,typeInfo,ar,hsz0,sliced,this]
def Enters (P:Program) (f:FuncId):Prop:= ∀args w,(callFunc f args).run P w= .ok (.enter f args) w
theorem enters {f:FuncId} {fn:Func} (hf:P.funcs[f]? =some fn) (h1:(fn.name== "runtime.NumGoroutine")=false) (h2:fn.body.isNone=false):Enters P f:=by
 intro args w;unfold callFunc;simp only[program,kg,Sem.run,jv,hf];simp[h1,h2]
theorem NU {Zy:Operand} {u6:List Operand} {ts:Array TypeId} {f:FuncId} {ps cs:Array Value} {vs:List Value} {Post:Value->List Row->Prop} (he:Enters P f) (hf:ev L Zy=some (.func (.func f) ps cs)) (ha:evs L u6=some vs) (hc:Ct P f (ps++vs.toArray++cs) B w0 R Post):
  Ac P n B w0 (.call {callee:= .value Zy,args:=u6.toArray,argTypes:=ts}) ty L R Post:=by
 intro a w o K Q ho _ hs hp hk;have e1:=hs.evs ha;unfold Oper.wp;simp only[execOp,ho,resolve,hs.ev hf,Deferred.ofValue,invoke,kg,ni,jv,uh,e1,he (ps++vs.toArray++cs) w,Oper.upon];refine(hc w hp).mono ?_;rintro e w' ⟨v,R',rfl,ci,hv⟩;exact hk v w' R' ci hv
theorem aF {f:FuncId} {u6:List Operand} {ts:Array TypeId} {vs:List Value} {Post:Value->List Row->Prop} (he:Enters P f) (ha:evs L u6=some vs) (hc:Ct P f vs.toArray B w0 R Post):
  Ac P n B w0 (.call {callee:= .value (.func f),args:=u6.toArray,argTypes:=ts}) ty L R Post:=
 NU (ps:= #[]) (cs:= #[]) he rfl ha (by simpa using hc)
end
end Go.Eng
namespace Go.Eng
open Go Go.RowKit
section
variable {P:Program} {n:Nd} {B:Nat} {w0:World} {L:Env} {R:List Row} {ty:TypeId}
theorem Row.lies_nil (B:Nat) (w:World) (e sz:Nat):(Row.mk e sz none 0 0 [] false).lies B w:=World.ownsRow_nil w B e sz
theorem Hp.nil {w:World} (h:Hp B w0 w R) (e sz:Nat):Hp B w0 w (⟨e,sz,none,0,0,[],false⟩::R):=
 ⟨h.below,h.base,λr hr=>by
  rcases jm.1 hr with rfl|hr
  ·exact Row.lies_nil B w e sz
  ·exact h.own r hr,jb.2 ⟨λr _ a a' ha _=>(by cases ha),h.apart⟩,h.late⟩
theorem Hp.new {w:World} (h:Hp B w0 w R) (cs:Array Value) (e m sz:Nat) (hm:m<=maxLen) (hs:cs.size=m*sz):Hp B w0 (w.alloc (.cells cs e)) (⟨e,sz,some ⟨w.heap.size,0,none⟩,m,m,cs.toList,false⟩::R):=by
 refine h.join (Rn:=[_]) ⟨(Fw _ _).alloc (di _) _,cD,λr hr=> ?_,qa _ _,Late.alloc _ _⟩;obtain rfl:=ib.1 hr;exact World.ownsRow_lit w cs m (di _) hm hs
theorem Hp.upd {w w':World} (h:Hp B w0 w R) {i:Nat} {r r':Row} (hi:R[i]? =some r) {row:Option Nat} (hg:w.grownBy w' row) (hd:w.drawn<=w'.drawn) (gs: ∀k,row=some k-> ∃a,r.A=some a/\a.block=k) (hl:r'.lies B w')
  (hb: ∀a',r'.A=some a'->(∃a,r.A=some a/\a.block=a'.block)\/w.heap.size<=a'.block):Hp B w0 w' (R.set i r'):=by
 have hr:r∈R:=gm hi;have sp:i<R.length:=(dw.1 hi).1
 have Zm: ∀(q:Row),q.lies B w->(∀a,q.A=some a-> ∀a',r.A=some a'->a.block≠a'.block)->q.lies B w':=by
  intro q hq dv;refine Row.lies_of_block hq λa ha=> ?_;refine hg.block a.block (Row.lies_lt hq a ha).2 λe=> ?_;obtain⟨a',nc,hk⟩:=gs _ e.symm;exact dv a ha a' nc hk.symm
 refine⟨h.below.grown hg h.base (λk hk=> ?_),qp h.base hg.size,λq hq=> ?_,?_,h.late.trans ⟨hd,λk o hk hc=> ?_⟩⟩
 ·obtain ⟨a,ha,rfl⟩:=gs k hk;exact(Row.lies_lt (h.own r hr) a ha).1
 ·obtain ⟨j,hj⟩:=List.mem_iff_getElem?.1 hq;rw[xq] at hj;by_cases pm:i=j
  ·rw [df pm] at hj;rw[df sp] at hj;obtain rfl:=jc hj;exact hl
  ·rw [bu pm] at hj;refine Zm q (h.own q (gm hj)) ?_;intro a ha a' nc;have n7:=(dw.1 hj).1;have Sh:=(dw.1 hj).2;have e8:=(dw.1 hi).2;rcases Cq pm with bc|bc
   ·have:=dn.1 h.apart i j sp n7 bc;rw[Sh,e8] at this;exact Fq (this a' a nc ha)
   ·have:=dn.1 h.apart j i n7 sp bc;rw[Sh,e8] at this;exact this a a' ha nc
 ·have Pc: ∀j (hj:j<R.length),i≠j->r'.apart R[j]:=by
   intro j hj pm a' aj nc Uo;have hlj:=Row.lies_lt (h.own R[j] (lu hj)) aj Uo;rcases hb a' nc with⟨a,ha,e⟩|Bk
   ·have e8:=(dw.1 hi).2;rw[<-e];rcases Cq pm with bc|bc
    ·have:=dn.1 h.apart i j sp hj bc;rw[e8] at this;exact this a aj ha Uo
    ·have:=dn.1 h.apart j i hj sp bc;rw[e8] at this;exact Fq (this aj a Uo ha)
   ·omega
  refine dn.2 λp q hp hq Ys=> ?_;simp only[Ew] at hp hq;by_cases h1:i=p
  ·subst h1;rw[List.getElem_set_self,Cb G];exact Pc q hq G
  ·by_cases h2:i=q
   ·subst h2;rw[List.getElem_set_self,Cb h1];exact Row.apart_symm (Pc p hp G)
   ·rw [Cb h1,Cb h2];exact dn.1 h.apart p q hp hq Ys
 ·rw [hg.block k (fo.1 hk).1 λe=> ?_]
  ·exact hk
  ·obtain ⟨a,ha,rfl⟩:=gs k e.symm;obtain⟨cs,e',fr,ce⟩:=Row.lies_cells (h.own r hr) ha;rw[ce] at hk;cases hk;cases hc
theorem World.grownBy_refl' (w:World) (row:Option Nat):w.grownBy w row:=⟨rfl,rfl,rfl,di _,λ_ _ _=>rfl⟩
theorem Row.lies_w {w:World} {r:Row} (h:r.lies B w) (ov:r.ro=false):w.ownsRow B r.e r.sz (.slice r.A r.n r.c) r.n r.xs:=by
 unfold Row.lies at h;simpa only[ov] using h
theorem bId {x y:Operand} {t e:TypeId} {z:Value} {bytes m:Nat} (ht:P.underlying t=some (.slice e)) (db:(P.info? e).map (λi=>(i.zero,i.size,i.bytes))=some (some z,1,bytes)) (hz:z.cells= #[z])
  (hx:ev L x=some (.int .i64 (m:Int))) (hy:ev L y=some (.int .i64 (m:Int))) (hm:m*bytes<=281474976710656) (Ix:m<=9223372036854775807):
  Ac P n B w0 (.makeSlice t x y) ty L R (λv R'=> ∃g,v= .slice (some ⟨g,0,none⟩) m m/\R'=⟨e,1,some ⟨g,0,none⟩,m,m,List.replicate m z,false⟩::R):=by
 intro a w o K Q ho _ hs hp hk;obtain⟨i0,hi,yd⟩:=il.1 db;simp only[yl] at yd;obtain⟨vl,d7,Hh⟩:=yd
 have hb:(i0.bytes:Int)*(m:Int)<=281474976710656:=by
  have h:((m*bytes:Nat):Int)<=281474976710656:=G
  rw[Hh,Db];rwa[Aq] at h
 have hr:=run_make (P:=P) w t e i0 z ht hi vl .i64 .i64 m m G (lq _) hb G;simp only[cu,d7,qw,hz] at hr;unfold Oper.wp;simp only[execOp,ho,hs.ev hx,hs.ev hy,kg,hr,jv,ni,Oper.upon];have hh:=hp.new (madeCells #[z] m) e m 1 (by unfold maxLen;omega) (by simp[size_madeCells]);rw[toList_madeCells_one] at hh;exact hk _ _ _ hh ⟨_,rfl,rfl⟩
theorem aKi {x y:Operand} {t e:TypeId} {z:Value} {bytes:Nat} {m:Int} (ht:P.underlying t=some (.slice e)) (db:(P.info? e).map (λi=>(i.zero,i.size,i.bytes))=some (some z,1,bytes)) (hz:z.cells= #[z])
  (hx:ev L x=some (.int .i64 m)) (hy:ev L y=some (.int .i64 m)) (h0:0<=m) (hm:m*bytes<=281474976710656) (Ix:m<=9223372036854775807):
  Ac P n B w0 (.makeSlice t x y) ty L R (λv R'=> ∃g,v= .slice (some ⟨g,0,none⟩) m.toNat m.toNat/\R'=⟨e,1,some ⟨g,0,none⟩,m.toNat,m.toNat,List.replicate m.toNat z,false⟩::R):=by
 obtain⟨q,rfl⟩:=Int.eq_ofNat_of_zero_le h0;have h:((q*bytes:Nat):Int)<=281474976710656:=by rw[Aq];exact hm
 have:=bId (P:=P) (n:=n) (B:=B) (w0:=w0) (L:=L) (R:=R) (ty:=ty) (m:=q) ht db hz hx hy G G;simpa only[cu] using this
theorem jF {e:TypeId} {z:Value} {sz:Nat} (db:(P.info? e).map (·.zero)=some (some z)) (hz:z.cells.size=sz):Ac P n B w0 (.alloc e) ty L R (λv R'=> ∃g,v= .pointer (some ⟨g,0,none⟩)/\R'=⟨e,sz,some ⟨g,0,none⟩,1,1,z.cells.toList,false⟩::R):=by
 intro a w o K Q ho _ hs hp hk;obtain⟨i0,hi,vl⟩:=il.1 db;have hh:=hp.new z.cells e 1 sz (by unfold maxLen;omega) G;unfold Oper.wp
 have hr:(Instr.alloc e true (.tuple #[])).run P w= .ok (.pointer (some ⟨w.heap.size,0,none⟩)) (w.alloc (.cells z.cells e)):=by
  simp[Instr.alloc,zeroValue,typeInfo,hi,vl,newVar,newRow]
 simp only[execOp,ho,kg,hr,jv,ni,Oper.upon];exact hk _ _ _ hh ⟨_,rfl,rfl⟩
theorem bR {e:TypeId} {x:Operand} {v:Value} {sz:Nat} (hx:ev L x=some v) (hz:v.cells.size=sz):Ac P n B w0 (.box e x) ty L R (λu R'=> ∃g,u= .pointer (some ⟨g,0,none⟩)/\R'=⟨e,sz,some ⟨g,0,none⟩,1,1,v.cells.toList,false⟩::R):=by
 intro a w o K Q ho _ hs hp hk;have hh:=hp.new v.cells e 1 sz (by unfold maxLen;omega) G;unfold Oper.wp
 have hr:(Instr.box e v).run P w= .ok (.pointer (some ⟨w.heap.size,0,none⟩)) (w.alloc (.cells v.cells e)):=by
  simp[Instr.box,newVar,newRow]
 simp only[execOp,ho,hs.ev hx,kg,hr,jv,ni,Oper.upon];exact hk _ _ _ hh ⟨_,rfl,rfl⟩
def evp (L:Env):List (Nat × Operand)->Option (List (Nat × Value))
 |[]=>some []
 |(i,x)::r=>match ev L x,evp L r with
  |some v,some vs=>some ((i,v)::vs)
  |_,_=>none
theorem Sat.evp {a:Act} (hs:Sat n L a): ∀ {xs:List (Nat × Operand)} {vs:List (Nat × Value)},evp L xs=some vs->xs.map (λp=>(p.1,a.eval p.2))=vs
 |[],vs,h=>by simpa [Eng.evp] using h
 | (i,x)::r,vs,h=>by
  unfold Eng.evp at h;split at h
  ·rename_i v us h1 h2;obtain rfl:=jc h;rw[lm,hs.ev h1,hs.evp h2]
  ·cases h
theorem pO {t e:TypeId} {z:Value} {sz len:Nat} {ps:List (Nat × Operand)} {vs:List (Nat × Value)} {cells:Array Value} (ht:P.underlying t=some (.slice e)) (db:(P.info? e).map (λi=>(i.zero,i.size))=some (some z,sz)) (hv:evp L ps=some vs)
  (re:Nat.ble (len*sz) 16777216=true) (hl:Nat.ble len 16777216=true)
  (j5:Instr.fill (λi=>some (i*sz,sz)) ((Array.range (len*sz)).map ((bif Nat.beq (len*sz) 0 then #[] else z.cells)[· %(bif Nat.beq (len*sz) 0 then #[] else z.cells).size]!)) vs=some cells) (hc:cells.size=len*sz):
  Ac P n B w0 (.buildSlice t len ps.toArray) ty L R (λv R'=> ∃g,v= .slice (some ⟨g,0,none⟩) len len/\R'=⟨e,sz,some ⟨g,0,none⟩,len,len,cells.toList,false⟩::R):=by
 intro a w o K Q ho _ hs hp hk;obtain⟨i0,hi,yd⟩:=il.1 db;simp only[yl] at yd;obtain⟨vl,d7⟩:=yd;have Pu:=au re;have hlm:=au hl;have Nz:=hs.evp hv
 have hr:(Instr.buildSlice t len (ps.toArray.map λp=>(p.1,a.eval p.2))).run P w= .ok (.slice (some ⟨w.heap.size,0,none⟩) len len) (w.alloc (.cells cells e)):=by
  have pc: ¬(16777216<len*sz):=G
  by_cases h0:len*sz=0
  ·have e0: ∀f:Nat->Value,Array.map f (Array.range 0)= #[]:=λf=>by simp[Array.range_zero']
   rw[h0,e0] at j5;simp[Instr.buildSlice,mh ht,sizeOf,typeInfo,hi,d7,h0,Nz,newRow,j5,e0]
  ·have hb:Nat.beq (len*sz) 0=false:=by
    cases hb:Nat.beq (len*sz) 0 with
    |true=>exact absurd (yf hb) h0
    |false=>rfl
   simp only[hb,cond_false] at j5;simp[Instr.buildSlice,mh ht,sizeOf,typeInfo,hi,d7,h0,zeroValue,vl,newRow,Nz,j5,pc]
 unfold Oper.wp;simp only[execOp,ho,kg,hr,jv,ni,Oper.upon];exact hk _ _ _ (hp.new cells e len sz (by unfold maxLen;omega) hc) ⟨_,rfl,rfl⟩
theorem aQz (l vs:List Value) (j k:Nat) (h1:j+vs.length<=k) (h2:k<=l.length):(l.take j++vs++l.drop (j+vs.length)).take k=(l.take k).take j++vs++(l.take k).drop (j+vs.length):=by
 apply ul;intro i;simp only[ny,List.getElem?_append,ah,ax,ql];have e1:min j l.length=j:=G
 have e2:min j (min k l.length)=j:=G
 rw[e1,e2];by_cases hi:i<k
 ·by_cases hj:i<j
  ·simp[hi,hj,show i<j+vs.length by omega]
  ·by_cases hv:i<j+vs.length
   ·simp[hi,hj,hv]
   ·have:j+vs.length+(i-(j+vs.length))=i:=G
    simp[hi,hv,this]
 ·have h4: ¬i<j+vs.length:=G
  have:j+vs.length+(i-(j+vs.length))=i:=G
  simp[hi,h4,this]
theorem Row.lies_seg {w:World} {r:Row} (h:r.lies B w) (ov:r.ro=false) {g:Nat} (hA:r.A=some ⟨g,0,none⟩) (j:Nat) (vs:List Value) (hj:j+vs.length<=r.xs.length) (h1: ∀v∈vs,v.oneCell'=true) {t:TypeId} {v:Value} (hv:v.cells.toList=vs) (gv:(P.info? t).map (·.size)=some vs.length):
  ∃w',(storeVar t ((⟨g,0,none⟩:Addr).add j) v).run P w= .ok () w'/\w.grownBy w' (some g)/\Row.lies B w' {r with xs:=r.xs.take j++vs++r.xs.drop (j+vs.length)}:=by
 have hw:=Row.lies_w h ov;rcases hw.2 with⟨hn,_⟩|⟨g',cap,cur,hs,hb,hg,hnc,sn,kp,ht⟩
 ·rw[hA] at hn;cases hn
 ·rw [hA] at hs;simp only[kv,mg,Av,Au,Ak] at hs;obtain⟨rfl,rfl⟩:=hs;have Ly:r.xs.length=r.n*r.sz:=hw.1;have ph:r.n*r.sz<=cur.size:=by rw[kp];exact uq _ hnc
  have Kz:(⟨g,0,none⟩:Addr).add j=⟨g,j,none⟩:=by unfold Addr.add;split<;>simp_all
  have hr:=run_storeCells_at P g j r.e vs 0 cur w hg cH h1;simp only[qm] at hr;obtain⟨i0,ar,hsz0⟩:=il.1 gv;have hvl:v.cells.size=vs.length:=by rw[<-jy,hv]
  refine⟨w.setRow g (cur.toList.take j++vs++cur.toList.drop (j+vs.length)).toArray,?_,⟨rfl,rfl,rfl,cD,λk _ hk=>Jf w g k _ (λe=>hk (by simp[e]))⟩,?_⟩
  ·rw [Kz];have dv: ¬(v.cells.size≠vs.length):=G
   simp only[storeVar,kg,sizeOf,typeInfo,program,Sem.run,jv,ar,ni,hsz0,dv,xe,hv];exact hr
  ·unfold Row.lies;simp only[ov];refine⟨?_, .inr ⟨g,r.c,_,by rw[hA],hb,Ke w g cur _ r.e _ hg,hnc,sn,?_,?_⟩⟩
   ·simp only[ah,ax,ay];omega
   ·simp only[qj,ah,ax,ay,jy];omega
   ·simp only;rw[aQz _ _ _ _ G (by rw[jy];omega),ht]
theorem NS {x y:Operand} {t:TypeId} {p:Option Addr} {j:Nat} {r:Row} {v:Value} {vs:List Value} {g:Nat} (i:Nat) (hi:R[i]? =some r) (ov:r.ro=false) (hA:r.A=some ⟨g,0,none⟩) (gv:(P.info? t).map (·.size)=some vs.length) (hx:ev L x=some (.pointer p)) (ci:p=pat r.A j) (hy:ev L y=some v) (hv:v.cells.toList=vs) (h1: ∀v∈vs,v.oneCell'=true) (hj:j+vs.length<=r.xs.length):
  Ac P n B w0 (.store t x y) ty L R (λ_ R'=>R'=R.set i {r with xs:=r.xs.take j++vs++r.xs.drop (j+vs.length)}):=by
 intro a w o K Q ho _ hs hp hk;subst ci;obtain⟨w',hr,hg,hl⟩:=Row.lies_seg (P:=P) (hp.own r (gm hi)) ov hA j vs hj h1 hv gv;unfold Oper.wp;simp only[execOp,ho,Instr.storeAt,hs.ev hx,hs.ev hy,pat,hA,ky,Instr.sureAddr,kg,ni,jv,hr,Oper.upon];refine hk undef w' _ ?_ rfl;refine hp.upd hi hg (KC _ _ _ _ hr) (λk hk=> ?_) hl (λa' nc=> .inl ⟨a',nc,rfl⟩);obtain rfl:=jc hk;exact⟨_,hA,rfl⟩
theorem aZm (l:List Value) (j:Nat) (v:Value) (h:j<l.length):l.take j++[v]++l.drop (j+1)=l.set j v:=by
 rw[Cz,df h];simp
theorem VU {x y:Operand} {t:TypeId} {p:Option Addr} {j:Nat} {r:Row} {v:Value} {g:Nat} (i:Nat) (hi:R[i]? =some r) (ov:r.ro=false) (hA:r.A=some ⟨g,0,none⟩) (gv:(P.info? t).map (·.size)=some 1) (hx:ev L x=some (.pointer p)) (ci:p=pat r.A j) (hy:ev L y=some v) (hv:v.cells.toList=[v]) (h1:v.oneCell'=true) (hj:j<r.xs.length):
  Ac P n B w0 (.store t x y) ty L R (λ_ R'=>R'=R.set i {r with xs:=r.xs.set j v}):=by
 have:=NS (P:=P) (n:=n) (B:=B) (w0:=w0) (ty:=ty) i hi ov hA (vs:=[v]) gv hx ci hy hv (by simpa using h1) (by rw[gq];omega);simpa only[gq,aZm _ _ _ hj] using this
theorem oU {s x:Operand} {t:TypeId} {z:Value} {bytes m c2:Nat} {A2:Option Addr} {r:Row} {news:List Value} (i:Nat) (hi:R[i]? =some r) (ov:r.ro=false) (ht:P.underlying t=some (.slice r.e)) (db:(P.info? r.e).map (λi=>(i.zero,i.size,i.bytes))=some (some z,r.sz,bytes)) (hz:z.cells.size=r.sz) (hsz:Nat.blt 0 r.sz=true) (m8:Nat.blt 0 bytes=true)
  (hs:ev L s=some (.slice r.A r.n r.c)) (hx:ev L x=some (.slice A2 m c2)) (ij:RdC B w0 R A2 m c2 r.sz news) (h1: ∀u∈news,u.oneCell'=true) (km:(r.n+m)*bytes<=140737488355328):
  Ac P n B w0 (.call {callee:= .builtin .append,args:= #[s,x],argTypes:= #[t,t]}) ty L R (λv R'=> ∃A' c',v= .slice A' (r.n+m) c'/\R'=R.set i ⟨r.e,r.sz,A',r.n+m,c',r.xs++news,false⟩):=by
 intro a w o K Q ho _ ef hp hk;obtain⟨i0,ar,yd⟩:=il.1 db;simp only[yl] at yd;obtain⟨vl,d7,Hh⟩:=yd;have Ov:=au hsz;have Xc:=au m8;have hr:=hp.own r (gm hi);have gr:=Row.lies_w hr ov;have d4:=ij w hp;have hlen:r.n+m<=140737488355328:=qp (Nat.le_mul_of_pos_right _ Xc) km
 have oc: ∃v' w',(Builtin.append_ #[t,t] o.type #[.slice r.A r.n r.c, .slice A2 m c2]).run P w= .ok v' w'/\w'.ownsRow B r.e r.sz v' (r.n+m) (r.xs++news)/\w.grownBy w' (Value.ownBlock (.slice r.A r.n r.c))/\(v'.ownBlock=Value.ownBlock (.slice r.A r.n r.c)\/v'.ownBlock=some w.heap.size):=by
  rcases dz m with h0|h0
  ·subst h0;have hn:news=[]:=ed (by rw[d4.len];omega);subst hn;rcases A2 with _|ad
   ·refine ⟨_,w,?_,by simpa using gr,World.grownBy_refl' w _, .inl rfl⟩;rcases gr.2 with⟨hv,hn⟩|⟨g,cap,cur,hv,_,_,hnc,_⟩
    ·rw [hv];simp[Builtin.append_,mh ht,sizeOf,typeInfo,ar,Builtin.lenOf,Builtin.firstCells]
    ·rw [hv];simp[Builtin.append_,mh ht,sizeOf,typeInfo,ar,Builtin.lenOf,Builtin.firstCells,hnc,storeCells]
   ·obtain ⟨v',w',h2,h3,h4,_,h5⟩:=run_append_own_at (P:=P) w B t o.type r.e i0 z r.sz bytes ht ar vl d7 Hh hz Ov _ r.n r.xs gr ad 0 c2 [] cD (λj u hu=>by simp at hu) h1 (by unfold maxLen;omega) km hp.base;exact⟨v',w',h2,h3,h4,h5⟩
  ·have dv:0<news.length:=by rw[d4.len];exact Jo h0 Ov
   obtain⟨ad,rfl,_⟩:=d4.at_ 0 news[0] cD
   obtain⟨v',w',h2,h3,h4,_,h5⟩:=run_append_own_at (P:=P) w B t o.type r.e i0 z r.sz bytes ht ar vl d7 Hh hz Ov _ r.n r.xs gr ad m c2 news d4.len (λj u hu=>by
    obtain⟨a',nc,hc⟩:=d4.at_ j u hu;obtain rfl:=jc nc
    exact hc) h1 (by unfold maxLen;omega) km hp.base
   exact⟨v',w',h2,h3,h4,h5⟩
 obtain⟨v',w',h2,h3,h4,h5⟩:=oc
 have Ax: ∃A' c',v'= .slice A' (r.n+m) c':=by
  rcases h3.2 with⟨rfl,hn⟩|⟨g,cap,cur,rfl,_⟩
  ·exact⟨none,0,by rw[hn]⟩
  ·exact⟨_,cap,rfl⟩
 obtain⟨A',c',rfl⟩:=Ax;unfold Oper.wp execOp;simp only[ho,resolve,invoke,builtin,kg,ni,jv,uh,lm,ry,ef.ev hs,ef.ev hx,h2,Oper.upon];refine hk _ w' _ ?_ ⟨A',c',rfl,rfl⟩;refine hp.upd hi h4 (KC _ _ _ _ h2) (λk hk=> ?_) ?_ (λa' nc=> ?_)
 ·cases hA:r.A with
  |none=>rw[hA] at hk;simp[Value.ownBlock] at hk
  |some a1=>rw[hA] at hk;simp only[Value.ownBlock,mg] at hk;exact⟨a1,rfl,hk⟩
 ·exact h3
 ·have Ky:A'=some a':=nc;subst Ky;rcases h5 with h5|h5
  ·cases hA:r.A with
   |none=>rw[hA] at h5;simp[Value.ownBlock] at h5
   |some a1=>rw[hA] at h5;simp only[Value.ownBlock,mg] at h5;exact .inl ⟨a1,rfl,h5.symm⟩
  ·simp only[Value.ownBlock,mg] at h5;exact .inr G
end
end Go.Eng
namespace Go.Eng
open Go Go.RowKit
def bT (P:Program) {α:Type} (m:Sem α):Prop:= ∀w w1 v,m.run P w= .ok v w1-> ∀w',m.run P w'= .ok v w'
def kX (P:Program) {α:Type} (m:Sem α):Prop:= ∀w w1 v,m.run P w≠ .ok v w1
section
variable {P:Program} {α β:Type}
theorem kX.free {m:Sem α} (h:kX P m):bT P m:=λw w1 v e=>absurd e (h w w1 v)
theorem bT.pure (a:α):bT P (Pure.pure a:Sem α):=λw w1 v h w'=>by
 simp only[ni,Cn] at h ⊢;exact⟨h.1,trivial⟩
theorem bT.bind {m:Sem α} {f:α->Sem β} (hm:bT P m) (hf: ∀a,bT P (f a)):bT P (m>>=f):=λw w1 v h w'=>by
 rw[kg] at h ⊢;cases hr:m.run P w with
 |halt x w2=>rw[hr] at h;cases h
 |ok a w2=>
  rw[hr] at h;rw[hm w w2 a hr w'];exact hf a w2 w1 v h w'
theorem kX.bind {m:Sem α} {f:α->Sem β} (hf: ∀a,kX P (f a)):kX P (m>>=f):=λw w1 v h=>by
 rw[kg] at h;cases hr:m.run P w with
 |halt x w2=>rw[hr] at h;cases h
 |ok a w2=>
  rw[hr] at h;exact hf a w2 w1 v h
theorem kX.left {m:Sem α} {f:α->Sem β} (hm:kX P m):kX P (m>>=f):=λw w1 v h=>by
 rw[kg] at h;cases hr:m.run P w with
 |halt x w2=>rw[hr] at h;cases h
 |ok a w2=>exact hm w w2 a hr
theorem dI (x:Halt):kX P (.halt x:Sem α):=λw w1 v h=>by cases h
theorem vY (e:RuntimeError):kX P (runtimePanic e:Sem α):=by
 unfold runtimePanic;refine kX.bind λp=> ?_;cases e with
 |typeAssertion i c a m=>exact kX.bind λ_=>kX.bind λ_=>dI _
 |panicNil=>exact kX.bind λ_=>kX.bind λ_=>dI _
 |_=>exact dI _
theorem wI (t:TypeId):bT P (underlying t):=by
 unfold underlying;refine bT.bind (λw w1 v h w'=> ?_) λp=> ?_
 ·simp only[program,Sem.run,Cn] at h ⊢;exact⟨h.1,trivial⟩
 ·split
  ·exact bT.pure _
  ·exact(dI _).free
theorem RI (t:TypeId):bT P (typeInfo t):=by
 unfold typeInfo;refine bT.bind (λw w1 v h w'=> ?_) λp=> ?_
 ·simp only[program,Sem.run,Cn] at h ⊢;exact⟨h.1,trivial⟩
 ·split
  ·exact bT.pure _
  ·exact(dI _).free
theorem pW (t:TypeId):bT P (sizeOf t):=bT.bind (RI t) λ_=>bT.pure _
theorem nZ (x:Value) (y:Nat) (c:BoundsCode):bT P (Instr.sliceBound x y c):=by
 unfold Instr.sliceBound;refine bT.bind ?_ λp=> ?_
 ·unfold asIntOf;split
  ·exact bT.pure _
  ·exact(dI _).free
  ·exact(dI _).free
 ·obtain ⟨k,i⟩:=p;simp only;split
  ·exact bT.pure _
  ·unfold boundsPanic;dsimp only;split
   ·exact(kX.bind λ_=>vY _).free
   ·exact(kX.bind λ_=>vY _).free
theorem rC (b:Bool) (n c:Nat) (lo hi mx:Option Value):bT P (Instr.sliceBounds b n c lo hi mx):=by
 unfold Instr.sliceBounds;cases mx with
 | none=>
  refine bT.bind (bT.pure _) λm=> ?_;cases hi with
  |none=>
   refine bT.bind (bT.pure _) λh=> ?_;cases lo with
   |none=>exact bT.bind (bT.pure _) λl=>bT.pure _
   |some v=>exact bT.bind (nZ _ _ _) λl=>bT.pure _
  |some u=>
   refine bT.bind (nZ _ _ _) λh=> ?_;cases lo with
   |none=>exact bT.bind (bT.pure _) λl=>bT.pure _
   |some v=>exact bT.bind (nZ _ _ _) λl=>bT.pure _
 | some x=>
  refine bT.bind (nZ _ _ _) λm=> ?_;cases hi with
  |none=>exact(kX.left (dI _)).free
  |some u=>
   refine bT.bind (nZ _ _ _) λh=> ?_;cases lo with
   |none=>exact bT.bind (bT.pure _) λl=>bT.pure _
   |some v=>exact bT.bind (nZ _ _ _) λl=>bT.pure _
theorem aNy (x:Value):bT P (asAddr x):=by
 unfold asAddr;split
 ·exact bT.pure _
 ·exact(vY _).free
 ·exact(dI _).free
theorem aFj (t:TypeId) (x:Value) (lo hi mx:Option Value):bT P (Instr.slice t x lo hi mx):=by
 unfold Instr.slice;refine bT.bind (wI t) λd=> ?_;split
 ·split
  ·exact(kX.left (dI _)).free
  ·exact bT.bind (rC _ _ _ _ _ _) λ_=>bT.pure _
 ·exact bT.bind (rC _ _ _ _ _ _) λ_=>bT.bind (pW _) λ_=>bT.pure _
 ·refine bT.bind (aNy _) λ_=>bT.bind (wI _) λ_=> ?_;split
  ·exact bT.bind (rC _ _ _ _ _ _) λ_=>bT.bind (pW _) λ_=>bT.pure _
  ·exact(dI _).free
 ·exact(dI _).free
theorem aNw (x:Value):bT P (Instr.sureAddr x):=by
 unfold Instr.sureAddr;split
 ·exact bT.pure _
 ·exact(dI _).free
theorem VC (t:TypeId) (x:Value) (lo hi mx:Option Value):bT P (Instr.sliceAt t x lo hi mx):=by
 unfold Instr.sliceAt;refine bT.bind (wI t) λd=> ?_;split
 ·exact bT.bind (aNw _) λ_=>bT.bind (rC _ _ _ _ _ _) λ_=>bT.bind (pW _) λ_=>bT.pure _
 ·exact aFj _ _ _ _ _
end
def bIf (P:Program) {α:Type} (m:Sem α):Prop:= ∀w v,m.run P w= .ok v w-> ∀w',m.run P w'= .ok v w'
def iP (P:Program) {α:Type} (m:Sem α):Prop:= ∀w v,m.run P w≠ .ok v w
section
variable {P:Program} {α β:Type}
theorem bT.stay {m:Sem α} (h:bT P m):bIf P m:=λw v e=>h w w v e
theorem iP.stay {m:Sem α} (h:iP P m):bIf P m:=λw v e=>absurd e (h w v)
theorem kX.noSame {m:Sem α} (h:kX P m):iP P m:=λw v e=>h w w v e
theorem iP.bind {m:Sem α} {f:α->Sem β} (hm:bT P m) (hf: ∀a,iP P (f a)):iP P (m>>=f):=λw v h=>by
 rw[kg] at h;cases hr:m.run P w with
 |halt x w2=>rw[hr] at h;cases h
 |ok a w2=>
  have h2:=hm w w2 a hr w;rw[hr] at h2;cases h2;rw[hr] at h;exact hf a w v h
theorem iP.left {m:Sem α} {f:α->β} (hm:iP P m):iP P (m>>=λa=>(Pure.pure (f a):Sem β)):=λw v h=>by
 rw[kg] at h;cases hr:m.run P w with
 |halt x w2=>rw[hr] at h;cases h
 |ok a w2=>
  rw[hr] at h;simp only[Result.andThen,ni,Cn] at h;rw[h.2] at hr;exact hm w a hr
theorem RH (t:TypeId):bT P (zeroValue t):=by
 unfold zeroValue;refine bT.bind (RI t) λi=> ?_;split
 ·exact bT.pure _
 ·exact(dI _).free
theorem rM (e:TypeId) (cs:Array Value):iP P (newRow e cs):=λw v h=>by
 simp[newRow,newObj,Sem.run,Result.andThen] at h;have:=bq (λw:World=>w.heap.size) h.2;unfold World.alloc at this;simp only[Array.size_push] at this;omega
theorem MG (f:α->Sem β) (hf: ∀a,bT P (f a)): ∀l:List α,bT P (l.mapM f)
 |[]=>by rw[List.mapM_nil];exact bT.pure _
 |a::l=>by
  rw[List.mapM_cons];exact bT.bind (hf a) λ_=>bT.bind (MG f hf l) λ_=>bT.pure _
theorem aNx (f:α->Sem β) (hf: ∀a,bT P (f a)) (l:Array α):bT P (l.mapM f):=by
 rw[Array.mapM_eq_mapM_toList,<-bind_pure_comp];exact bT.bind (MG f hf _) λ_=>bT.pure _
theorem aFk (t:TypeId) (ps:Array (Nat × Value)):bT P (Instr.build t ps):=by
 unfold Instr.build;refine bT.bind (RH t) λz=> ?_;refine bT.bind (wI t) λd=> ?_;split
 ·refine bT.bind (aNx _ (λ_=>bT.bind (pW _) λ_=>bT.pure _) _) λ_=> ?_;split
  ·exact bT.pure _
  ·exact(dI _).free
 ·refine bT.bind (pW _) λ_=> ?_;split
  ·exact bT.pure _
  ·exact(dI _).free
 ·exact(dI _).free
theorem BN (t:TypeId) (n:Nat) (ps:Array (Nat × Value)):iP P (Instr.buildSlice t n ps):=by
 unfold Instr.buildSlice;refine iP.bind (wI t) λd=> ?_;split
 ·refine iP.bind (pW _) λs=> ?_;dsimp only;split
  ·exact(kX.left (dI _)).noSame
  ·split
   ·refine iP.bind (bT.pure _) λz=> ?_;split
    ·exact iP.left (rM _ _)
    ·exact(dI _).noSame
   ·refine iP.bind (RH _) λz=> ?_;refine iP.bind (bT.pure _) λz=> ?_;split
    ·exact iP.left (rM _ _)
    ·exact(dI _).noSame
 ·exact(dI _).noSame
theorem aEp (t:TypeId) (v:Value):iP P (Instr.box t v):=iP.left (rM _ _)
end
def UZ:Op->Bool
 | .move _=>true
 | .slice .. =>true
 | .build .. =>true
 | .buildSlice .. =>true
 | .box .. =>true
 | .extract .. =>true
 |_=>false
theorem VD {P:Program} (v:Value) (i:Nat):bT P (Instr.extract v i):=by
 unfold Instr.extract
 repeat' first
  |exact bT.pure _
  |exact(dI _).free
  |split
theorem aJb {P:Program} {o:Oper} (h:UZ o.op=true) (ρ:Operand->Value):bIf P (execOp ρ o):=by
 unfold execOp;cases ho:o.op<;>(try (rw[ho] at h;cases h))
 all_goals first
  |exact(bT.pure _).stay
  |exact(iP.left (aEp _ _)).stay
  |exact(bT.bind (aFk _ _) λ_=>bT.pure _).stay
  |exact(iP.left (BN _ _ _)).stay
  |exact(bT.bind (VC _ _ _ _ _) λ_=>bT.pure _).stay
  |exact(bT.bind (VD _ _) λ_=>bT.pure _).stay
section
variable {P:Program} {ops:Array Oper} {Q:Exit->Act->World->Prop}
def anc (ops:Array Oper):Nat->Nat->Nat->Bool
 |0,_,_=>false
 |f+1,j,k=>((ops[j]?).map (·.after.any λe=>Region.binds .any e && (Nat.beq e.on k||anc ops f e.on k))).getD false
def NN (ops:Array Oper) (ab:Array Bool) (i:Nat):Bool:=
 (List.range ops.size).all λk=> !ab.getD k false||anc ops ops.size i k||((ops[k]?).map (UZ ·.op)).getD false
def rD (ops:Array Oper) (ab:Array Bool):Bool:=
 (List.range ops.size).all λk=> !ab.getD k false||((ops[k]?).map (·.after.all λe=> !Region.binds .any e||ab.getD e.on false)).getD false
theorem CU {ab:Array Bool} (h:rD ops ab=true) {k:Nat} {o:Oper} (hk:ops[k]? =some o) (hl:ab.getD k false=true): ∀e∈o.after,Region.binds .any e=true->ab.getD e.on false=true:=by
 intro e he hb;have bc:k<ops.size:=(fo.1 hk).1;have:=ww.1 h k (jq.2 bc);rw[hl,hk] at this;simp only[Ce,Ed,ky,nz] at this;obtain⟨q,hq,rfl⟩:=Array.mem_iff_getElem.1 he;have h2:=Gp.1 this q hq;rw[hb] at h2;simpa using h2
theorem zH {ab:Array Bool} (hc:rD ops ab=true): ∀(f j k:Nat) (oj:Oper),ops[j]? =some oj->(∀e∈oj.after,Region.binds .any e=true->ab.getD e.on false=true)->anc ops f j k=true->ab.getD k false=true
 |0,_,_,_,_,_,h=>by cases h
 | f+1,j,k,oj,i6,ju,h=>by
  unfold anc at h;rw[i6] at h;simp only[ky,nz,Array.any_eq_true] at h;obtain⟨q,hq,h⟩:=h;have he:oj.after[q]∈oj.after:=Gq hq;simp only[pq,zo] at h;have hl:=ju _ he h.1;rcases h.2 with h2|h2
  ·rw[<-yf h2];exact hl
  ·cases ho:ops[oj.after[q].on]? with
   |none=>
    exfalso;cases f with
    |zero=>cases h2
    |succ f=>unfold anc at h2;rw[ho] at h2;simp at h2
   |some om=>exact zH hc f _ k om ho (CU hc ho hl) h2
theorem GH {ab:Array Bool} (hc:rD ops ab=true) {j:Nat} {oj:Oper} (i6:ops[j]? =some oj) (ju: ∀e∈oj.after,Region.binds .any e=true->ab.getD e.on false=true):rD ops (ab.setIfInBounds j true)=true:=by
 have up: ∀k,ab.getD k false=true->(ab.setIfInBounds j true).getD k false=true:=by
  intro k hk;by_cases e:j=k
  ·subst e
   have bc:j<ab.size:=by
    rcases fe j ab.size with h|h
    ·exact h
    ·simp[yx h] at hk
   simp[bc]
  ·simp only[xg,yt,e,xe] at hk ⊢;exact hk
 unfold rD;refine ww.2 λk hk=> ?_;by_cases Pk:k=j
 ·subst Pk;rw[i6];simp only[ky,nz]
  have:(oj.after.all λe=> !Region.binds .any e||(ab.setIfInBounds k true).getD e.on false)=true:=by
   refine Gp.2 λq hq=> ?_;cases hb:Region.binds .any oj.after[q] with
   |false=>rfl
   |true=>simp only[Ce,Ed];exact up _ (ju _ (Gq hq) hb)
  rw[this,Bool.or_true]
 ·cases hl:ab.getD k false with
  | false=>
   have:(ab.setIfInBounds j true).getD k false=false:=by
    simp only[xg,yt,Fq Pk,xe] at hl ⊢;exact hl
   rw[this];rfl
  | true=>
   cases ho:ops[k]? with
   |none=>
    have h0:=jq.1 hk;rw[Array.getElem?_eq_none_iff] at ho;omega
   | some ok=>
    have h1:=CU hc ho hl
    have:(ok.after.all λe=> !Region.binds .any e||(ab.setIfInBounds j true).getD e.on false)=true:=by
     refine Gp.2 λq hq=> ?_;cases hb:Region.binds .any ok.after[q] with
     |false=>rfl
     |true=>simp only[Ce,Ed];exact up _ (h1 _ (Gq hq) hb)
    simp only[ky,nz,this,Bool.or_true]
def uX (P:Program) (ops:Array Oper) (Q:Exit->Act->World->Prop):Nat->(World->Prop)->Array Bool->Act->World->Prop
 |0,_,ab,a,w=>Region.ready .any ops ab=[]/\Q .normal a w
 |ac+1,S,ab,a,w=>(Region.ready .any ops ab=[]->Q .normal a w)/\
  ∀i∈Region.ready .any ops ab,wpOp P ops Q i (λa' w'=> ∃S':World->Prop,S' w'/\(NN ops ab i=true\/ ∀x,S' x->S x)/\uX P ops Q ac S' (ab.setIfInBounds i true) a' w') a w
theorem yK: ∀(ac:Nat) (S:World->Prop) (ab:Array Bool) (a:Act) (w:World),uX P ops Q ac S ab a w->wpAny P .any ops Q ac ab a w
 |0,_,_,_,_,h=>h
 |ac+1,_,_,_,_,h=>⟨h.1,λi hi=>wpOp_mono (λa' w' ⟨S',_,_,h'⟩=>yK ac S' _ a' w' h') (h.2 i hi)⟩
theorem YieldsIf.shrink {S S':World->Prop} {o:Oper} {v:Value} {a:Act} (h:YieldsIf P ops S o v a) (hs: ∀x,S' x->S x):YieldsIf P ops S' o v a:=
 h.imp (λ⟨hw,hv⟩=>⟨hw,λw Mx=>hv w (hs w Mx)⟩) id
theorem zQ {i:Nat} {oi:Oper} {v:Value} (hi:ops[i]? =some oi) (Fo: ∀(j:Nat) (o:Oper) cs b,ops[j]? =some o->o.op≠ .select cs b)
  (hQ: ∀c a w,Q (.panic c) (a.put oi.dst v) w->Q (.panic c) a w):
  ∀(ac:Nat) (S:World->Prop) (ab:Array Bool) (a:Act) (w:World),
   rD ops ab=true->(∀j oj,ops[j]? =some oj->j≠i->ab.getD j true=false->(∀e∈oj.after,Region.binds .any e=true->e.on≠i)->oi.apart ops oj=true)->
   i∈Region.ready .any ops ab->YieldsIf P ops S oi v a->S w->
   uX P ops Q ac S (ab.setIfInBounds i true) (a.put oi.dst v) w->uX P ops Q (ac+1) S ab a w:=by
 intro ac
 induction ac with
 | zero=>
  intro S ab a w _ _ hr hy hS H;refine⟨λh=>(by rw[h] at hr;cases hr),λj hj=> ?_⟩;by_cases vi:j=i
  ·subst vi;exact hy.wpOp hi hS ⟨S,hS, .inr λ_ h=>h,H⟩
  ·have:=Gn hj vi;rw[H.1] at this;cases this
 | succ ac ih=>
  intro S ab a w kx b6 hr hy hS H;refine⟨λh=>(by rw[h] at hr;cases hr),λj hj=> ?_⟩;by_cases vi:j=i
  ·subst vi;exact hy.wpOp hi hS ⟨S,hS, .inr λ_ h=>h,H⟩
  ·have h1:=H.2 j (Gn hj vi);obtain⟨Bx,oj,i6,ju⟩:=Ec.1 hj
   have sp:i<ab.size:=by
    have h0:=(Ec.1 hr).1;rcases fe i ab.size with h'|h'
    ·exact h'
    ·simp[yx h'] at h0
   have n8: ∀e∈oj.after,Region.binds .any e=true->e.on≠i:=λe he hb g7=>by
    have h1:=ju e he hb;have h0:=(Ec.1 hr).1;rw[g7] at h1;simp[sp] at h0 h1;rw[h0] at h1;cases h1
   have h2:=wpOp_putIf i6 (b6 j oj i6 vi Bx n8) (λcs b=>Fo i oi cs b hi) (λcs b=>Fo j oj cs b i6) hQ hy h1
   have g9: ∀k ok,ops[k]? =some ok->k≠i->(ab.setIfInBounds j true).getD k true=false->
     (∀e∈ok.after,Region.binds .any e=true->e.on≠i)->oi.apart ops ok=true:=λk ok hk Pj d6 mw=>by
    refine b6 k ok hk Pj ?_ mw;by_cases Sg:j=k
    ·subst Sg;exact Bx
    ·rw[getD_set_ne true Sg] at d6;exact d6
   refine wpOp_mono (λa' w' ⟨Pz,S',Re,tc,hB⟩=> ?_) h2
   have d6:ab.getD i false=false:=by
    have h0:=(Ec.1 hr).1;simp[sp] at h0 ⊢;exact h0
   have Mj:(NN ops ab j=true\/ ∀x,S' x->S x)/\YieldsIf P ops S' oi v a':=by
    rcases tc with hb|hs
    ·have hio:i<ops.size:=(fo.1 hi).1;have sm:=ww.1 hb i (jq.2 hio);have e1:(ab.setIfInBounds i true).getD i false=true:=by simp[sp]
     rw[e1,hi] at sm;simp only[Ce,Ed,ky,nz,zo] at sm;rcases sm with ha|hm
     ·have:=zH kx _ j i oj i6 ju ha;rw[d6] at this;cases this
     ·refine ⟨.inl ?_,?_⟩
      ·refine ww.2 λk hk=> ?_;have h3:=ww.1 hb k hk;by_cases e:i=k
       ·subst e;rw[d6];rfl
       ·simp only[xg,yt,e,xe] at h3 ⊢;exact h3
      ·exact Pz.imp (λ⟨hw,hv⟩=>⟨hw,λLz _=>aJb hm _ _ _ (hv w hS) Lz⟩) id
    ·exact⟨.inr hs,YieldsIf.shrink Pz hs⟩
   refine⟨S',Re,Mj.1,ih S' (ab.setIfInBounds j true) a' w' (GH kx i6 ju) g9 (Gn hr (Fq vi)) Mj.2 Re ?_⟩;rw[Array.setIfInBounds_comm _ _ vi];exact hB
end
section
variable {P:Program} {n:Nd} {B:Nat} {w0:World} {ops:Array Oper} {K:Env->List Row->Prop} {L:Env} {R:List Row} {op:Op} {ty:TypeId} {pos:String} {mm:Array Edge}
def WD (P:Program) (n:Nd) (B:Nat) (w0:World) (ops:Array Oper) (K:Env->List Row->Prop) (ac:Nat) (ab:Array Bool) (L:Env) (R:List Row):Prop:=
 ∀a w (Q:Exit->Act->World->Prop),Sat n L a->Hp B w0 w R->(∀c a w,¬Q (.panic c) a w)->(∀a' w' L' R',Sat n L' a'->Hp B w0 w' R'->K L' R'->Q .normal a' w')->uX P ops Q ac (λw=>Hp B w0 w R) ab a w
theorem bP {id:Nat} {l:List Oper} {Q:fC} (hm:P.follows .mixedOrders=true) (h:WD P n B w0 l.toArray Q.nrm l.toArray.size (Array.replicate l.toArray.size false) L R) (hd:yF n.rd l=true:=by exact rfl):W P n B w0 (.region id l.toArray true) Q L R:=by
 intro a w hs hp;refine Jk hm (SI WA hd _ _ _ _<|yK _ _ _ _ _ (h a _ _ hs (hp.drawn _ (Ep _)) (λ_ _ _ h=>h) λ_ _ L' R' ef ci hk=>⟨L',R',ef,ci,hk⟩))
def chk (ops:Array Oper) (ab:Array Bool) (i:Nat):Bool:=Region.noSelect ops && Region.free .any ops ab i && (Region.ready .any ops ab).contains i && rD ops ab
theorem HY {i:Nat} {d:Nat} {v:Value} {o:Oper} {ac:Nat} {ab:Array Bool} (hi:ops[i]? =some o) (hd:o.dst=some d) (hc:chk ops ab i=true) (hn:Nat.blt d n=true)
  (hy: ∀a,Sat n L a->YieldsIf P ops (λw=>Hp B w0 w R) o v a) (h:WD P n B w0 ops K ac (ab.setIfInBounds i true) ((d,v)::L) R):WD P n B w0 ops K (ac+1) ab L R:=by
 intro a w Q hs hp fc hq;simp only[chk,pq] at hc;obtain⟨⟨⟨h1,h2⟩,h3⟩,h4⟩:=hc;refine zQ hi (zx h1) (λc a w hh=>(fc c _ w hh).elim) ac _ ab a w h4 (Bv hi h2) (by simpa using h3) (hy a hs) hp ?_;rw[hd];exact h _ w Q (hs.put hn v) hp fc hq
theorem bNz {d:Nat} {v:Value} {ac:Nat} {ab:Array Bool} (i:Nat) (hi:ops[i]? =some {dst:=some d,op:=op,type:=ty,pos:=pos,after:=mm,guard:=none}) (hc:chk ops ab i=true) (hn:Nat.blt d n=true)
  (hy:Yl P n B w0 op ty L R v) (h:WD P n B w0 ops K ac (ab.setIfInBounds i true) ((d,v)::L) R):WD P n B w0 ops K (ac+1) ab L R:=
 HY hi rfl hc hn (λa hs=> .inl ⟨rfl,λw hw=>hy a w _ rfl rfl hs hw⟩) h
theorem bJd {d j e:Nat} {want:Bool} {v:Value} {ac:Nat} {ab:Array Bool} (i:Nat) (hi:ops[i]? =some {dst:=some d,op:=op,type:=ty,pos:=pos,after:=mm,guard:=some (j,want)}) (hc:chk ops ab i=true) (hn:Nat.blt d n=true)
  (hj:(ops[j]?).bind (·.dst)=some e) (hb:lk L e=some (.bool want)) (hy:Yl P n B w0 op ty L R v) (h:WD P n B w0 ops K ac (ab.setIfInBounds i true) ((d,v)::L) R):WD P n B w0 ops K (ac+1) ab L R:=
 HY hi rfl hc hn (λa hs=> .inl ⟨by simp[Region.wanted,lM hs hj hb],λw hw=>hy a w _ rfl rfl hs hw⟩) h
theorem bJe {d j e:Nat} {want b:Bool} {ac:Nat} {ab:Array Bool} (i:Nat) (hi:ops[i]? =some {dst:=some d,op:=op,type:=ty,pos:=pos,after:=mm,guard:=some (j,want)}) (hc:chk ops ab i=true) (hn:Nat.blt d n=true)
  (hj:(ops[j]?).bind (·.dst)=some e) (hb:lk L e=some (.bool b)) (dv:(b==want)=false) (h:WD P n B w0 ops K ac (ab.setIfInBounds i true) ((d,undef)::L) R):WD P n B w0 ops K (ac+1) ab L R:=
 HY hi rfl hc hn (λa hs=> .inr ⟨by simp only[Region.wanted,lM hs hj hb];cases b<;>cases want<;>simp_all,rfl⟩) h
theorem JJ {d j e:Nat} {want:Bool} {ac:Nat} {ab:Array Bool} (i:Nat) (hi:ops[i]? =some {dst:=some d,op:=op,type:=ty,pos:=pos,after:=mm,guard:=some (j,want)}) (hc:chk ops ab i=true) (hn:Nat.blt d n=true)
  (hj:(ops[j]?).bind (·.dst)=some e) (hb:lk L e=some undef) (h:WD P n B w0 ops K ac (ab.setIfInBounds i true) ((d,undef)::L) R):WD P n B w0 ops K (ac+1) ab L R:=
 HY hi rfl hc hn (λa hs=> .inr ⟨by simp[Region.wanted,xZ hs hj hb],rfl⟩) h
theorem bFp {ac:Nat} {ab:Array Bool} (hr:Region.ready .any ops ab=[]) (h:K L R):WD P n B w0 ops K ac ab L R:=by
 intro a w Q hs hp fc hq;cases ac with
 |zero=>exact⟨hr,hq _ _ L R hs hp h⟩
 |succ ac=>exact⟨λ_=>hq _ _ L R hs hp h,by rw[hr];simp⟩
theorem aCy {i:Nat} {o:Oper} {Post:Value->List Row->Prop} {ac:Nat} {ab:Array Bool} (hi:ops[i]? =some o) (hr:Region.ready .any ops ab=[i]) (hg: ∀a,Sat n L a->Region.wanted o (yielded ops a.tmps)=true) (ha:Ac P n B w0 o.op o.type L R Post)
  (hn: ∀v a,Sat n L a->Sat n (match o.dst with|some d=>(d,v)::L|none=>L) (a.put o.dst v))
  (h: ∀v R',Post v R'->(NN ops ab i=true\/ ∀w,Hp B w0 w R'->Hp B w0 w R)/\WD P n B w0 ops K ac (ab.setIfInBounds i true) (match o.dst with|some d=>(d,v)::L|none=>L) R'):WD P n B w0 ops K (ac+1) ab L R:=by
 intro a w Q hs hp fc hq;refine⟨λh0=>absurd (hr▸h0) cD,λj hj=> ?_⟩;rw[hr] at hj;obtain rfl:=ib.1 hj;unfold wpOp;simp only[hi,hg a hs,Fu];refine .inl (ha a w o _ Q rfl rfl hs hp λv w' R' ci hv=> ?_);obtain⟨h1,h2⟩:=h v R' hv;exact⟨λw=>Hp B w0 w R',ci,h1,h2 _ w' Q (hn v a hs) ci fc hq⟩
theorem bOb {d:Nat} {Post:Value->List Row->Prop} {ac:Nat} {ab:Array Bool} (i:Nat) (hi:ops[i]? =some {dst:=some d,op:=op,type:=ty,pos:=pos,after:=mm,guard:=none}) (hr:Region.ready .any ops ab=[i]) (hn:Nat.blt d n=true) (ha:Ac P n B w0 op ty L R Post)
  (h: ∀v R',Post v R'->(NN ops ab i=true\/ ∀w,Hp B w0 w R'->Hp B w0 w R)/\WD P n B w0 ops K ac (ab.setIfInBounds i true) ((d,v)::L) R'):WD P n B w0 ops K (ac+1) ab L R:=
 aCy hi hr (λ_ _=>rfl) ha (λv _ hs=>hs.put hn v) h
theorem WH {d j e:Nat} {want:Bool} {Post:Value->List Row->Prop} {ac:Nat} {ab:Array Bool} (i:Nat) (hi:ops[i]? =some {dst:=some d,op:=op,type:=ty,pos:=pos,after:=mm,guard:=some (j,want)}) (hr:Region.ready .any ops ab=[i]) (hn:Nat.blt d n=true)
  (hj:(ops[j]?).bind (·.dst)=some e) (hb:lk L e=some (.bool want)) (ha:Ac P n B w0 op ty L R Post)
  (h: ∀v R',Post v R'->(NN ops ab i=true\/ ∀w,Hp B w0 w R'->Hp B w0 w R)/\WD P n B w0 ops K ac (ab.setIfInBounds i true) ((d,v)::L) R'):WD P n B w0 ops K (ac+1) ab L R:=
 aCy hi hr (λa hs=>by simp[Region.wanted,lM hs hj hb]) ha (λv _ hs=>hs.put hn v) h
theorem oW {Post:Value->List Row->Prop} {ac:Nat} {ab:Array Bool} (i:Nat) (hi:ops[i]? =some {dst:=none,op:=op,type:=ty,pos:=pos,after:=mm,guard:=none}) (hr:Region.ready .any ops ab=[i]) (ha:Ac P n B w0 op ty L R Post)
  (h: ∀v R',Post v R'->(NN ops ab i=true\/ ∀w,Hp B w0 w R'->Hp B w0 w R)/\WD P n B w0 ops K ac (ab.setIfInBounds i true) L R'):WD P n B w0 ops K (ac+1) ab L R:=
 aCy hi hr (λ_ _=>rfl) ha (λ_ _ hs=>hs) h
theorem oF {ac:Nat} {ab:Array Bool} (d:Nat) {p:Prop} [Decidable p] (hb:lk L d=some (.bool (decide p))) (ht:p->WD P n B w0 ops K ac ab ((d, .bool true)::L) R) (hf: ¬p->WD P n B w0 ops K ac ab ((d, .bool false)::L) R):WD P n B w0 ops K ac ab L R:=by
 intro a w Q hs hp hq;by_cases h:p
 ·exact ht h a w Q (hs.sub (pU (by rw[hb,nk h]))) hp hq
 ·exact hf h a w Q (hs.sub (pU (by rw[hb,oh h]))) hp hq
theorem iJ {ac:Nat} {ab:Array Bool} {d:Nat} {u v:Value} (hu:u=v) (h:WD P n B w0 ops K ac ab ((d,v)::L) R):WD P n B w0 ops K ac ab ((d,u)::L) R:=by
 subst hu;exact h
theorem zR {ac:Nat} {ab:Array Bool} {R1:List Row} (hR:R=R1) (h:WD P n B w0 ops K ac ab L R1):WD P n B w0 ops K ac ab L R:=by
 subst hR;exact h
end
end Go.Eng
namespace Go.Eng
open Go Go.RowKit
section
variable {P:Program} {n:Nd} {B:Nat} {w0:World}
theorem jD {σ0:Type} {c:Code} {Q:fC} {L:Env} {R:List Row} (Lx:σ0->Env) (Rx:σ0->List Row) (J:σ0->Prop) (μ:σ0->Nat)
  (h0: ∃x0,J x0/\Sub (Lx x0) L/\ ∀w,Hp B w0 w R->Hp B w0 w (Rx x0))
  (round: ∀x0,J x0->W P n B w0 c {Q with nrm:=λL' R'=> ∃y0,J y0/\μ y0<μ x0/\Sub (Lx y0) L'/\ ∀w,Hp B w0 w R'->Hp B w0 w (Rx y0)} (Lx x0) (Rx x0)):W P n B w0 (.loop c) Q L R:=by
 obtain⟨x0,h1,h2,h3⟩:=h0;refine oZ (σ:=σ0) (λp=>Lx p) (λp=>Rx p) (λp=>J p) (λp=>μ p) ⟨x0,h1,h2,h3⟩ λp hp=>iA (round p hp) ?_ (λ_ _ h=>h) (λ_ _ _ h=>h);rintro L' R' ⟨y0,g1,g2,g3,g4⟩;exact⟨y0,⟨g1,g2⟩,g3,g4⟩
theorem dR {σ0 σ1:Type} {c:Code} {Q:fC} {L:Env} {R:List Row} (Lx:σ0->σ1->Env) (Rx:σ0->σ1->List Row) (J:σ0->σ1->Prop) (μ:σ0->σ1->Nat)
  (h0: ∃x0 x1,J x0 x1/\Sub (Lx x0 x1) L/\ ∀w,Hp B w0 w R->Hp B w0 w (Rx x0 x1))
  (round: ∀x0 x1,J x0 x1->W P n B w0 c {Q with nrm:=λL' R'=> ∃y0 y1,J y0 y1/\μ y0 y1<μ x0 x1/\Sub (Lx y0 y1) L'/\ ∀w,Hp B w0 w R'->Hp B w0 w (Rx y0 y1)} (Lx x0 x1) (Rx x0 x1)):W P n B w0 (.loop c) Q L R:=by
 obtain⟨x0,x1,h1,h2,h3⟩:=h0;refine oZ (σ:=σ0 × σ1) (λp=>Lx p.1 p.2) (λp=>Rx p.1 p.2) (λp=>J p.1 p.2) (λp=>μ p.1 p.2) ⟨(x0,x1),h1,h2,h3⟩ λp hp=>iA (round p.1 p.2 hp) ?_ (λ_ _ h=>h) (λ_ _ _ h=>h);rintro L' R' ⟨y0,y1,g1,g2,g3,g4⟩;exact⟨(y0,y1),⟨g1,g2⟩,g3,g4⟩
theorem gG {σ0 σ1 σ2:Type} {c:Code} {Q:fC} {L:Env} {R:List Row} (Lx:σ0->σ1->σ2->Env) (Rx:σ0->σ1->σ2->List Row) (J:σ0->σ1->σ2->Prop) (μ:σ0->σ1->σ2->Nat)
  (h0: ∃x0 x1 x2,J x0 x1 x2/\Sub (Lx x0 x1 x2) L/\ ∀w,Hp B w0 w R->Hp B w0 w (Rx x0 x1 x2))
  (round: ∀x0 x1 x2,J x0 x1 x2->W P n B w0 c {Q with nrm:=λL' R'=> ∃y0 y1 y2,J y0 y1 y2/\μ y0 y1 y2<μ x0 x1 x2/\Sub (Lx y0 y1 y2) L'/\ ∀w,Hp B w0 w R'->Hp B w0 w (Rx y0 y1 y2)} (Lx x0 x1 x2) (Rx x0 x1 x2)):W P n B w0 (.loop c) Q L R:=by
 obtain⟨x0,x1,x2,h1,h2,h3⟩:=h0;refine oZ (σ:=σ0 × σ1 × σ2) (λp=>Lx p.1 p.2.1 p.2.2) (λp=>Rx p.1 p.2.1 p.2.2) (λp=>J p.1 p.2.1 p.2.2) (λp=>μ p.1 p.2.1 p.2.2) ⟨(x0,x1,x2),h1,h2,h3⟩ λp hp=>iA (round p.1 p.2.1 p.2.2 hp) ?_ (λ_ _ h=>h) (λ_ _ _ h=>h);rintro L' R' ⟨y0,y1,y2,g1,g2,g3,g4⟩;exact⟨(y0,y1,y2),⟨g1,g2⟩,g3,g4⟩
theorem HZ {σ0 σ1 σ2 σ3:Type} {c:Code} {Q:fC} {L:Env} {R:List Row} (Lx:σ0->σ1->σ2->σ3->Env) (Rx:σ0->σ1->σ2->σ3->List Row) (J:σ0->σ1->σ2->σ3->Prop) (μ:σ0->σ1->σ2->σ3->Nat)
  (h0: ∃x0 x1 x2 x3,J x0 x1 x2 x3/\Sub (Lx x0 x1 x2 x3) L/\ ∀w,Hp B w0 w R->Hp B w0 w (Rx x0 x1 x2 x3))
  (round: ∀x0 x1 x2 x3,J x0 x1 x2 x3->W P n B w0 c {Q with nrm:=λL' R'=> ∃y0 y1 y2 y3,J y0 y1 y2 y3/\μ y0 y1 y2 y3<μ x0 x1 x2 x3/\Sub (Lx y0 y1 y2 y3) L'/\ ∀w,Hp B w0 w R'->Hp B w0 w (Rx y0 y1 y2 y3)} (Lx x0 x1 x2 x3) (Rx x0 x1 x2 x3)):W P n B w0 (.loop c) Q L R:=by
 obtain⟨x0,x1,x2,x3,h1,h2,h3⟩:=h0;refine oZ (σ:=σ0 × σ1 × σ2 × σ3) (λp=>Lx p.1 p.2.1 p.2.2.1 p.2.2.2) (λp=>Rx p.1 p.2.1 p.2.2.1 p.2.2.2) (λp=>J p.1 p.2.1 p.2.2.1 p.2.2.2) (λp=>μ p.1 p.2.1 p.2.2.1 p.2.2.2) ⟨(x0,x1,x2,x3),h1,h2,h3⟩ λp hp=>iA (round p.1 p.2.1 p.2.2.1 p.2.2.2 hp) ?_ (λ_ _ h=>h) (λ_ _ _ h=>h);rintro L' R' ⟨y0,y1,y2,y3,g1,g2,g3,g4⟩;exact⟨(y0,y1,y2,y3),⟨g1,g2⟩,g3,g4⟩
theorem fH {σ0 σ1 σ2 σ3 σ4:Type} {c:Code} {Q:fC} {L:Env} {R:List Row} (Lx:σ0->σ1->σ2->σ3->σ4->Env) (Rx:σ0->σ1->σ2->σ3->σ4->List Row) (J:σ0->σ1->σ2->σ3->σ4->Prop) (μ:σ0->σ1->σ2->σ3->σ4->Nat)
  (h0: ∃x0 x1 x2 x3 x4,J x0 x1 x2 x3 x4/\Sub (Lx x0 x1 x2 x3 x4) L/\ ∀w,Hp B w0 w R->Hp B w0 w (Rx x0 x1 x2 x3 x4))
  (round: ∀x0 x1 x2 x3 x4,J x0 x1 x2 x3 x4->W P n B w0 c {Q with nrm:=λL' R'=> ∃y0 y1 y2 y3 y4,J y0 y1 y2 y3 y4/\μ y0 y1 y2 y3 y4<μ x0 x1 x2 x3 x4/\Sub (Lx y0 y1 y2 y3 y4) L'/\ ∀w,Hp B w0 w R'->Hp B w0 w (Rx y0 y1 y2 y3 y4)} (Lx x0 x1 x2 x3 x4) (Rx x0 x1 x2 x3 x4)):W P n B w0 (.loop c) Q L R:=by
 obtain⟨x0,x1,x2,x3,x4,h1,h2,h3⟩:=h0;refine oZ (σ:=σ0 × σ1 × σ2 × σ3 × σ4) (λp=>Lx p.1 p.2.1 p.2.2.1 p.2.2.2.1 p.2.2.2.2) (λp=>Rx p.1 p.2.1 p.2.2.1 p.2.2.2.1 p.2.2.2.2) (λp=>J p.1 p.2.1 p.2.2.1 p.2.2.2.1 p.2.2.2.2) (λp=>μ p.1 p.2.1 p.2.2.1 p.2.2.2.1 p.2.2.2.2) ⟨(x0,x1,x2,x3,x4),h1,h2,h3⟩ λp hp=>iA (round p.1 p.2.1 p.2.2.1 p.2.2.2.1 p.2.2.2.2 hp) ?_ (λ_ _ h=>h) (λ_ _ _ h=>h);rintro L' R' ⟨y0,y1,y2,y3,y4,g1,g2,g3,g4⟩;exact⟨(y0,y1,y2,y3,y4),⟨g1,g2⟩,g3,g4⟩
theorem mK {σ0 σ1 σ2 σ3 σ4 σ5:Type} {c:Code} {Q:fC} {L:Env} {R:List Row} (Lx:σ0->σ1->σ2->σ3->σ4->σ5->Env) (Rx:σ0->σ1->σ2->σ3->σ4->σ5->List Row) (J:σ0->σ1->σ2->σ3->σ4->σ5->Prop) (μ:σ0->σ1->σ2->σ3->σ4->σ5->Nat)
  (h0: ∃x0 x1 x2 x3 x4 x5,J x0 x1 x2 x3 x4 x5/\Sub (Lx x0 x1 x2 x3 x4 x5) L/\ ∀w,Hp B w0 w R->Hp B w0 w (Rx x0 x1 x2 x3 x4 x5))
  (round: ∀x0 x1 x2 x3 x4 x5,J x0 x1 x2 x3 x4 x5->W P n B w0 c {Q with nrm:=λL' R'=> ∃y0 y1 y2 y3 y4 y5,J y0 y1 y2 y3 y4 y5/\μ y0 y1 y2 y3 y4 y5<μ x0 x1 x2 x3 x4 x5/\Sub (Lx y0 y1 y2 y3 y4 y5) L'/\ ∀w,Hp B w0 w R'->Hp B w0 w (Rx y0 y1 y2 y3 y4 y5)} (Lx x0 x1 x2 x3 x4 x5) (Rx x0 x1 x2 x3 x4 x5)):W P n B w0 (.loop c) Q L R:=by
 obtain⟨x0,x1,x2,x3,x4,x5,h1,h2,h3⟩:=h0;refine oZ (σ:=σ0 × σ1 × σ2 × σ3 × σ4 × σ5) (λp=>Lx p.1 p.2.1 p.2.2.1 p.2.2.2.1 p.2.2.2.2.1 p.2.2.2.2.2) (λp=>Rx p.1 p.2.1 p.2.2.1 p.2.2.2.1 p.2.2.2.2.1 p.2.2.2.2.2) (λp=>J p.1 p.2.1 p.2.2.1 p.2.2.2.1 p.2.2.2.2.1 p.2.2.2.2.2) (λp=>μ p.1 p.2.1 p.2.2.1 p.2.2.2.1 p.2.2.2.2.1 p.2.2.2.2.2) ⟨(x0,x1,x2,x3,x4,x5),h1,h2,h3⟩ λp hp=>iA (round p.1 p.2.1 p.2.2.1 p.2.2.2.1 p.2.2.2.2.1 p.2.2.2.2.2 hp) ?_ (λ_ _ h=>h) (λ_ _ _ h=>h);rintro L' R' ⟨y0,y1,y2,y3,y4,y5,g1,g2,g3,g4⟩;exact⟨(y0,y1,y2,y3,y4,y5),⟨g1,g2⟩,g3,g4⟩
theorem TC {σ0 σ1 σ2 σ3 σ4 σ5 σ6:Type} {c:Code} {Q:fC} {L:Env} {R:List Row} (Lx:σ0->σ1->σ2->σ3->σ4->σ5->σ6->Env) (Rx:σ0->σ1->σ2->σ3->σ4->σ5->σ6->List Row) (J:σ0->σ1->σ2->σ3->σ4->σ5->σ6->Prop) (μ:σ0->σ1->σ2->σ3->σ4->σ5->σ6->Nat)
  (h0: ∃x0 x1 x2 x3 x4 x5 x6,J x0 x1 x2 x3 x4 x5 x6/\Sub (Lx x0 x1 x2 x3 x4 x5 x6) L/\ ∀w,Hp B w0 w R->Hp B w0 w (Rx x0 x1 x2 x3 x4 x5 x6))
  (round: ∀x0 x1 x2 x3 x4 x5 x6,J x0 x1 x2 x3 x4 x5 x6->W P n B w0 c {Q with nrm:=λL' R'=> ∃y0 y1 y2 y3 y4 y5 y6,J y0 y1 y2 y3 y4 y5 y6/\μ y0 y1 y2 y3 y4 y5 y6<μ x0 x1 x2 x3 x4 x5 x6/\Sub (Lx y0 y1 y2 y3 y4 y5 y6) L'/\ ∀w,Hp B w0 w R'->Hp B w0 w (Rx y0 y1 y2 y3 y4 y5 y6)} (Lx x0 x1 x2 x3 x4 x5 x6) (Rx x0 x1 x2 x3 x4 x5 x6)):W P n B w0 (.loop c) Q L R:=by
 obtain⟨x0,x1,x2,x3,x4,x5,x6,h1,h2,h3⟩:=h0;refine oZ (σ:=σ0 × σ1 × σ2 × σ3 × σ4 × σ5 × σ6) (λp=>Lx p.1 p.2.1 p.2.2.1 p.2.2.2.1 p.2.2.2.2.1 p.2.2.2.2.2.1 p.2.2.2.2.2.2) (λp=>Rx p.1 p.2.1 p.2.2.1 p.2.2.2.1 p.2.2.2.2.1 p.2.2.2.2.2.1 p.2.2.2.2.2.2) (λp=>J p.1 p.2.1 p.2.2.1 p.2.2.2.1 p.2.2.2.2.1 p.2.2.2.2.2.1 p.2.2.2.2.2.2) (λp=>μ p.1 p.2.1 p.2.2.1 p.2.2.2.1 p.2.2.2.2.1 p.2.2.2.2.2.1 p.2.2.2.2.2.2) ⟨(x0,x1,x2,x3,x4,x5,x6),h1,h2,h3⟩ λp hp=>iA (round p.1 p.2.1 p.2.2.1 p.2.2.2.1 p.2.2.2.2.1 p.2.2.2.2.2.1 p.2.2.2.2.2.2 hp) ?_ (λ_ _ h=>h) (λ_ _ _ h=>h);rintro L' R' ⟨y0,y1,y2,y3,y4,y5,y6,g1,g2,g3,g4⟩;exact⟨(y0,y1,y2,y3,y4,y5,y6),⟨g1,g2⟩,g3,g4⟩
theorem tL {x y:Code} {Q:fC} {L:Env} {R:List Row} (L1:Env) (R1:List Row)
  (hx:W P n B w0 x {Q with nrm:=λL' R'=>Sub L1 L'/\ ∀w,Hp B w0 w R'->Hp B w0 w R1} L R) (hy:W P n B w0 y Q L1 R1):W P n B w0 (.seq x y) Q L R:=
 aD (iA hx (λ_ _ ⟨hL,hR⟩=>aHi hL hR hy) (λ_ _ h=>h) (λ_ _ _ h=>h))
theorem bS {Q:fC} {L:Env} {R R1:List Row} (hR: ∀w,Hp B w0 w R->Hp B w0 w R1) (h:Q.ret L R1):W P n B w0 .ret Q L R:=aHi (Sub.refl L) hR (bW h)
def pickT (is:List Nat) (m:Nat) (R:List Row):List Row:=is.filterMap (λi=>R[i]?)++R.drop m
theorem Hp.pickT {B:Nat} {w0 w:World} {R:List Row} (h:Hp B w0 w R) (is:List Nat) (m:Nat) (hn:is.Nodup) (hR:is.map (λi=>(R.take m)[i]?)=(is.filterMap (λi=>R[i]?)).map some):Hp B w0 w (pickT is m R):=by
 rw[<-gu m R] at h;have hp:=kz.1 h.apart;have hF:Hp B w0 w (R.take m):=⟨h.below,h.base,λr hr=>h.own r (gp.2 (.inl hr)),hp.1,h.late⟩;have Ug:=hF.sel is hn hR
 have mem: ∀q∈is.filterMap (λi=>R[i]?),q∈R.take m:=by
  intro q hq;have h1:some q∈(is.filterMap (λi=>R[i]?)).map some:=iy.2 ⟨q,hq,rfl⟩;rw[<-hR] at h1;obtain⟨i,_,hi⟩:=iy.1 h1;exact gm hi
 refine⟨h.below,h.base,λr hr=> ?_,kz.2 ⟨Ug.apart,hp.2.1,λa ha b hb=>hp.2.2 a (mem a ha) b hb⟩,h.late⟩;rcases gp.1 hr with hr|hr
 ·exact Ug.own r hr
 ·exact h.own r (gp.2 (.inr hr))
theorem Ct.pick {P:Program} {B:Nat} {w0:World} {f:FuncId} {args:Array Value} {R:List Row} {Post:Value->List Row->Prop} (is:List Nat) (m:Nat) (hn:is.Nodup) (hR:is.map (λi=>(R.take m)[i]?)=(is.filterMap (λi=>R[i]?)).map some) (h:Ct P f args B w0 (pickT is m R) Post):Ct P f args B w0 R Post:=
 Ct.sub (λ_ hw=>hw.pickT is m hn hR) h
theorem aT {P:Program} {n:Nd} {B:Nat} {w0:World} {Q:fC} {L:Env} {R:List Row} (is:List Nat) (m:Nat) (hn:is.Nodup) (hR:is.map (λi=>(R.take m)[i]?)=(is.filterMap (λi=>R[i]?)).map some) (h:Q.ret L (pickT is m R)):W P n B w0 .ret Q L R:=
 bS (λ_ hw=>hw.pickT is m hn hR) h
theorem Ct.quiet {f:FuncId} {args:Array Value} {R:List Row} {Q:Value->Prop} (h: ∀w,Hp B w0 w R->Ct P f args w.heap.size w [] (λv _=>Q v)):Ct P f args B w0 R (λv R'=>R'=R/\Q v):=
 λw hw=>(h w hw w (Hp.refl w)).mono λ_ _ ⟨v,_,he,hh,hv⟩=>⟨v,R,he,(hw.join hh).right,rfl,hv⟩
theorem Sub.to {L1 L:Env} {t:Nat} {v u:Value} (h:lk L t=some v) (e:v=u) (hs:Sub L1 L):Sub ((t,u)::L1) L:=e▸Sub.cons h hs
variable {L:Env} {R:List Row} {ty:TypeId}
def aR (l:List Int):Prop:= ∀x∈l,0<=x/\x<256
theorem aR.rd {l:List Int} (h:aR l) (i:Int):0<=rd l i/\rd l i<256:=by
 unfold Eng.rd;rcases fe i.toNat l.length with h1|h1
 ·rw [ai,av h1];exact h _ (lu h1)
 ·rw [ai,mf h1];simp
theorem aR.take {l:List Int} (h:aR l) (k:Nat):aR (l.take k):=λx hx=>h x (lv hx)
theorem aR.drop {l:List Int} (h:aR l) (k:Nat):aR (l.drop k):=λx hx=>h x (pg hx)
theorem aR.append {l m:List Int} (h:aR l) (h':aR m):aR (l++m):=λx hx=>(gp.1 hx).elim (h x) (h' x)
theorem aR.nil:aR []:=λ_ h=>by cases h
theorem AA {l m:List Int} (hl:aR l) (hm:aR m):((strOfNums l).toList==(strOfNums m).toList)=decide (l=m):=by
 have key: ∀l:List Int,aR l->((strOfNums l).toList.map λb=>(b.toNat:Int))=l:=by
  intro l hl
  have e:(strOfNums l).toList=l.map λx=>UInt8.ofNat x.toNat:=by
   rw[ByteArray.toList_eq];rfl
  rw[e,yz]
  conv=>rhs;rw[<-List.map_id l]
  refine Cc λx hx=> ?_;obtain⟨h0,h1⟩:=hl x hx;simp only[Function.comp,id];rw[Ch (by simp[UInt8.size];omega)];omega
 by_cases h:l=m
 ·subst h;simp
 ·have:(strOfNums l).toList≠(strOfNums m).toList:=λe=>h (by rw[<-key l hl,<-key m hm,e]);simp[h,this]
theorem zL {x:Operand} {s e d:TypeId} {A:Option Addr} {m c:Nat} {l:List Int} (ef:P.underlying s=some (.slice e)) (he:P.underlying e=some (.int .u8)) (hd:P.underlying d=some .string) (hx:ev L x=some (.slice A m c)) (hr:RdC B w0 R A m c 1 (ints .u8 l)):
  Yl P n B w0 (.convert s d x) ty L R (.string (strOfNums l)):=by
 intro a w o ho _ hs hp;have ij:=hr w hp;have hl:=ij.len;rw[cZ,qw] at hl
 have hc:(convert s d (.slice A m c)).run P w= .ok (.string (strOfNums l)) w:=by
  rcases A with _|ad
  ·have h0:l=[]:=by
    cases l with
    |nil=>rfl
    |cons y l'=>obtain⟨_,h,_⟩:=ij.at_ 0 (.int .u8 y) (by simp[ints]);cases h
   subst h0;exact run_convert_bytes_nil w s e ef he m c d hd
  ·have hlc:(loadCells ad m).run P w= .ok (l.map (Value.int .u8)).toArray w:=by
    have:=run_loadCells_list (P:=P) w ad (l.map (Value.int .u8)) (λj v hj=>by
     obtain⟨a',nc,qq⟩:=ij.at_ j v hj;obtain rfl:=jc nc
     exact qq)
    simpa [hl] using this
   rw[run_convert_bytes_string w s d e _ m c ef he hd,run_bytesToString w _ m c l hlc,foldl_push_bytes];simp[strOfNums,ByteArray.empty,ByteArray.emptyWithCapacity];rfl
 simp[execOp,ho,hs.ev hx,hc]
theorem bIz {x y:Operand} {t u:TypeId} {p q:ByteArray} (hx:ev L x=some (.string p)) (hy:ev L y=some (.string q)):Yl P n B w0 (.binOp .eql t x y u) ty L R (.bool (p.toList==q.toList)):=by
 intro a w o ho _ hs _;simp[execOp,ho,binOp,eqGuard,hs.ev hx,hs.ev hy,Op.stringOp]
theorem bJa {x y:Operand} {t u:TypeId} {p q:List Int} (hx:ev L x=some (.string (strOfNums p))) (hy:ev L y=some (.string (strOfNums q))) (hp:aR p) (hq:aR q):Yl P n B w0 (.binOp .eql t x y u) ty L R (.bool (decide (p=q))):=by
 have:=bIz (P:=P) (n:=n) (B:=B) (w0:=w0) (R:=R) (ty:=ty) (t:=t) (u:=u) hx hy;rwa[AA hp hq] at this
theorem bDl {x y:Operand} {t u:TypeId} {p q:List Int} (hx:ev L x=some (.string (strOfNums p))) (hy:ev L y=some (.string (strOfNums q))) (hp:aR p) (hq:aR q):Yl P n B w0 (.binOp .neq t x y u) ty L R (.bool (decide (p≠q))):=by
 intro a w o ho _ hs _;have h:=AA hp hq;have h2:(!decide (p=q))=decide (p≠q):=cD
 simp only[execOp,ho,binOp,eqGuard,hs.ev hx,hs.ev hy,Op.stringOp,h,h2];simp
theorem aYm {x:Operand} {t e:TypeId} {r:Row} {g:Nat} (i:Nat) (hi:R[i]? =some r) (ov:r.ro=false) (ht:P.underlying t=some (.slice e)) (he:P.underlying e=some (.int .u8)) (hA:r.A=some ⟨g,0,none⟩) (hx:ev L x=some (.slice r.A r.n r.c)):
  Ac P n B w0 (.convert t t x) ty L R (λv R'=>v= .slice r.A r.n r.c/\R'=R.set i {r with ro:=true}):=by
 intro a w o K Q ho _ hs hp hk;have hw:=Row.lies_w (hp.own r (gm hi)) ov;rcases hw.2 with⟨hn,_⟩|⟨g',cap,cur,ef,hb,hg,hnc,sn,kp,t8⟩
 ·rw[hA] at hn;cases hn
 ·rw [hA] at ef;simp only[kv,mg,Av,Au,Ak] at ef;obtain⟨rfl,rfl⟩:=ef
  have hg':(w.freeze ⟨g,cur.size,none⟩ 1).heap[g]? =some (.cells cur r.e (cur.size,cur.size+1)):=by
   have bc:g<w.heap.size:=(fo.1 hg).1;have hv:w.heap[g]= .cells cur r.e (0,0):=(fo.1 hg).2;simp[World.freeze,bc,Array.getElem_modify,hv]
  have Yp: ∀k,k≠g->(w.freeze ⟨g,cur.size,none⟩ 1).heap[k]? =w.heap[k]? :=by
   intro k hk;simp[World.freeze,vg,Fq hk]
  have hr:(convert t t (.slice r.A r.n r.c)).run P w= .ok (.slice r.A r.n r.c) (w.freeze ⟨g,cur.size,none⟩ 1):=by
   rw[hA];simp only[convert,kg,mh ht,jv,mh he,beq_self_eq_true];simp[markStringish,shape,Sem.run,World.shape?,hg,freeze]
  unfold Oper.wp;simp only[execOp,ho,hs.ev hx,kg,hr,jv,ni,Oper.upon];refine hk _ _ _ ?_ ⟨rfl,rfl⟩;refine hp.upd hi (row:=some g) ⟨by simp[World.freeze],by simp[World.freeze],by simp[World.freeze],by simp[World.freeze],λk _ dv=>Yp k (λe=>dv (by rw[e]))⟩ (by simp[World.freeze]) (λk hk=>⟨_,hA,by simpa using hk⟩) ?_ (λa' nc=> .inl ⟨a',nc,rfl⟩);unfold Row.lies;exact⟨g,cur,_,hA,hb,hg',qp hnc sn,hnc,hw.1,t8⟩
end
end Go.Eng
namespace Go.Eng
open Go Go.RowKit
def upd (l:List Int) (i v:Int):List Int:=l.set i.toNat v
theorem oO (k:IntKind) (l m:List Int):ints k (l++m)=ints k l++ints k m:=by simp[ints]
theorem aUu (k:IntKind) (l:List Int) (i v:Int):(ints k l).set i.toNat (.int k v)=ints k (upd l i v):=by simp[ints,upd,List.map_set]
theorem bD (l:List Int) (i v:Int):(upd l i v).length=l.length:=by simp[upd]
theorem fV {l:List Int} {i j v:Int} (hi:0<=i) (hj:0<=j) (h:i<l.length):rd (upd l i v) j=if j=i then v else rd l j:=by
 unfold rd upd;rw[ai,ai,xq];by_cases e:j=i
 ·subst e;have:j.toNat<l.length:=G
  simp[this]
 ·have: ¬i.toNat=j.toNat:=G
  simp[e,this]
theorem KN {l m:List Int} {i:Int} (h0:0<=i) (h:i<l.length):rd (l++m) i=rd l i:=by
 unfold rd;rw[ai,ai,ji G]
theorem OM {l:List Int} {x i:Int} (h:i=l.length):rd (l++[x]) i=x:=by
 subst h;simp[rd]
theorem BV (k:IntKind) (l:List Int): ∀u∈ints k l,u.oneCell'=true:=by
 intro u hu;obtain⟨x,_,rfl⟩:=iy.1 hu;rfl
section
variable {P:Program} {n:Nd} {B:Nat} {w0:World} {L:Env} {R:List Row} {ty:TypeId}
theorem UD (k:IntKind):RdC B w0 R none 0 0 1 (ints k []):=λ_ _=>⟨rfl,G,G,λj v hv=>by simp[ints] at hv⟩
theorem IM (sz:Nat):RdC B w0 R none 0 0 sz []:=λ_ _=>⟨cD,G,G,λj v hv=>by simp at hv⟩
theorem bJ {x y:Operand} {t e:TypeId} {j v:Int} {A:Option Addr} {m c:Nat} {k:IntKind} {l:List Int} (i:Nat) (hi:R[i]? =some ⟨e,1,A,m,c,ints k l,false⟩) (gv:(P.info? t).map (·.size)=some 1) (hx:ev L x=some (.pointer (pat A j.toNat))) (hy:ev L y=some (.int k v)) (h0:0<=j:=by omega) (h1:j<m:=by omega):
  Ac P n B w0 (.store t x y) ty L R (λ_ R'=>R'=R.set i ⟨e,1,A,m,c,ints k (upd l j v),false⟩):=by
 intro a w o K Q ho i7 hs hp hk;have gr:=Row.lies_w (hp.own _ (gm hi)) rfl;have ij:=Row.rd (hp.own _ (gm hi));have hl:=ij.len
 obtain⟨g,hA⟩: ∃g,A=some ⟨g,0,none⟩:=by
  rcases gr.2 with⟨_,hn⟩|⟨g,cap,cur,hv,_⟩
  ·simp only at hn;omega
  ·simp only[kv] at hv;exact⟨g,hv.1⟩
 have:=VU (P:=P) (n:=n) (B:=B) (w0:=w0) (ty:=ty) i hi rfl hA gv hx rfl hy rfl rfl (by rw[hl];simp only;omega);simp only[aUu] at this;exact this a w o K Q ho i7 hs hp hk
theorem aV {s x:Operand} {t e:TypeId} {bytes m p c c2:Nat} {A A2:Option Addr} {k:IntKind} {l news:List Int} (i:Nat) (hi:R[i]? =some ⟨e,1,A,p,c,ints k l,false⟩) (ht:P.underlying t=some (.slice e)) (db:(P.info? e).map (λi=>(i.zero,i.size,i.bytes))=some (some (.int k 0),1,bytes)) (m8:Nat.blt 0 bytes=true)
  (hs:ev L s=some (.slice A p c)) (hx:ev L x=some (.slice A2 m c2)) (ij:RdC B w0 R A2 m c2 1 (ints k news)) (km:(p+m)*bytes<=140737488355328:=by omega):
  Ac P n B w0 (.call {callee:= .builtin .append,args:= #[s,x],argTypes:= #[t,t]}) ty L R (λv R'=> ∃A' c',v= .slice A' (p+m) c'/\R'=R.set i ⟨e,1,A',p+m,c',ints k (l++news),false⟩):=by
 have:=oU (P:=P) (n:=n) (B:=B) (w0:=w0) (ty:=ty) i hi rfl ht db rfl rfl m8 hs hx ij (BV k news) km;simp only[<-oO] at this;exact this
theorem aSk (k:IntKind) (m:Nat) (x:Int):List.replicate m (Value.int k x)=ints k (List.replicate m x):=by simp[ints]
theorem dL {x y:Operand} {t e:TypeId} {k:IntKind} {bytes:Nat} {m:Int} (ht:P.underlying t=some (.slice e)) (db:(P.info? e).map (λi=>(i.zero,i.size,i.bytes))=some (some (.int k 0),1,bytes))
  (hx:ev L x=some (.int .i64 m)) (hy:ev L y=some (.int .i64 m)) (h0:0<=m:=by omega) (hm:m*bytes<=281474976710656:=by omega) (Ix:m<=9223372036854775807:=by omega):
  Ac P n B w0 (.makeSlice t x y) ty L R (λv R'=> ∃g,v= .slice (some ⟨g,0,none⟩) m.toNat m.toNat/\R'=⟨e,1,some ⟨g,0,none⟩,m.toNat,m.toNat,ints k (List.replicate m.toNat 0),false⟩::R):=by
 have:=aKi (P:=P) (n:=n) (B:=B) (w0:=w0) (L:=L) (R:=R) (ty:=ty) ht db rfl hx hy h0 hm Ix;simpa only[aSk] using this
theorem Yl.t {op:Op} {p:Prop} [Decidable p] (hy:Yl P n B w0 op ty L R (.bool (decide p))) (h:p):Yl P n B w0 op ty L R (.bool true):=by rwa[nk h] at hy
theorem Yl.f {op:Op} {p:Prop} [Decidable p] (hy:Yl P n B w0 op ty L R (.bool (decide p))) (h: ¬p:=by omega):Yl P n B w0 op ty L R (.bool false):=by rwa[oh h] at hy
theorem Yl.is {op:Op} {v u:Value} (hy:Yl P n B w0 op ty L R v) (h:v=u):Yl P n B w0 op ty L R u:=h▸hy
theorem kK {ops:Array Oper} {l:List Oper} {K:Env->List Row->Prop} (d:Nat) {p:Prop} [Decidable p] (h:lk L d=some (.bool (decide p))) (hp:p) (hn:WR P n B w0 ops l K ((d, .bool true)::L) R):WR P n B w0 ops l K L R:=
 dB (pU (by rw[h,nk hp])) (λ_ h=>h) hn
theorem pI {ops:Array Oper} {l:List Oper} {K:Env->List Row->Prop} (d:Nat) {p:Prop} [Decidable p] (h:lk L d=some (.bool (decide p))) (hp: ¬p) (hn:WR P n B w0 ops l K ((d, .bool false)::L) R):WR P n B w0 ops l K L R:=
 dB (pU (by rw[h,oh hp])) (λ_ h=>h) hn
theorem kZ {ops:Array Oper} {l2:List Oper} {Q:Exit->Act->World->Prop}: ∀(l1:List Oper) (a:Act) (w:World),wpList P ops (λe a w=>match e with| .normal=>wpList P ops Q l2 a w|e=>Q e a w) l1 a w->wpList P ops Q (l1++l2) a w
 |[],a,w,h=>h
 | o ::l1,a,w,h=>by
  simp only[jh];unfold wpList at h ⊢;split
  ·rename_i hw;rw[df hw] at h;rcases h with h|⟨h1,h2⟩
   ·left;unfold Oper.wp at h ⊢;generalize (execOp a.eval o).run P w=r at*;cases r with
    | ok n w'=>
     cases n<;>simp only[Oper.upon] at h ⊢ <;>first
      |exact kZ l1 _ _ h
      |exact Calls.mono h (λe Lz he=>by cases e<;>first|exact kZ l1 _ _ he|exact he)
      |exact Rows.mono h (λ_ _ he=>kZ l1 _ _ he)
    |halt x w'=>cases x<;>simp only[Oper.upon] at h ⊢ <;>exact h
   ·exact .inr ⟨h1,h2⟩
  ·rename_i hw;rw[bu hw] at h;exact kZ l1 _ _ h
theorem dD {ops:Array Oper} {l:List Oper} {K:Env->List Row->Prop} (k:Nat) (L1:Env) (R1:List Row) (h1:WR P n B w0 ops (l.take k) (λL' R'=>Sub L1 L'/\ ∀w,Hp B w0 w R'->Hp B w0 w R1) L R) (h2:WR P n B w0 ops (l.drop k) K L1 R1):WR P n B w0 ops l K L R:=by
 intro a w Q hs hp hq;rw[<-gu k l];refine kZ _ a w (h1 a w _ hs hp λa' w' L' R' ef ci ⟨hL,hR⟩=> ?_);exact h2 a' w' Q (ef.sub hL) (hR w' ci) hq
theorem bOe {p:Prop} [Decidable p] (h:p):Value.bool true=Value.bool (decide p):=by rw[nk h]
theorem bOf {p:Prop} [Decidable p] (h: ¬p):Value.bool false=Value.bool (decide p):=by rw[oh h]
theorem mb {p q:Prop} [Decidable p] [Decidable q] (h:p↔q):Value.bool (decide p)=Value.bool (decide q):=by rw[yg.2 h]
def enu:Nat->List Value->List (Nat × Value)
 |_,[]=>[]
 |k,v::vs=>(k,v)::enu (k+1) vs
theorem cells_one {v:Value} (h:v.oneCell'=true):v.cells= #[v]:=by cases v<;>first|rfl|(simp[Value.oneCell'] at h)
theorem aAk: ∀(vs pre post:List Value),vs.all (·.oneCell')=true->vs.length=post.length->Instr.fill (λi=>some (i*1,1)) (pre++post).toArray (enu pre.length vs)=some (pre++vs).toArray
 |[],pre,post,_,hl=>by
  have:post=[]:=ed (by simpa using hl.symm);subst this;simp[enu,Instr.fill]
 | v::vs,pre,post,h1,hl=>by
  cases post with
  |nil=>simp at hl
  | cons q post=>
   simp only[Hm,pq] at h1;have hc:=cells_one h1.1;have ih:=aAk vs (pre++[v]) post h1.2 (by simpa using hl);simp only[ah,gq] at ih;simp only[enu,Instr.fill,qw];rw[hc];have hn: ¬((#[v]:Array Value).size≠1\/pre.length+(#[v]:Array Value).size>(pre++q::post).toArray.size):=cD
   simp only[hn,zo,zy,xe]
   have e:((#[v]:Array Value).zipIdx.foldl (λcs x=>cs.setIfInBounds (pre.length+x.2) x.1) (pre++q::post).toArray)=(pre++[v]++post).toArray:=by
    simp
   simp only[qw,gy,jh,je] at ih;simp only[e,gy,jh,je];exact ih
theorem mE {t e:TypeId} {z:Value} {len:Nat} {ps:List (Nat × Operand)} (vals:List Value) (ht:P.underlying t=some (.slice e)) (db:(P.info? e).map (λi=>(i.zero,i.size))=some (some z,1)) (hv:evp L ps=some (enu 0 vals))
  (h1:vals.all (·.oneCell')=true) (hl:vals.length=len) (re:Nat.ble len 16777216=true):
  Ac P n B w0 (.buildSlice t len ps.toArray) ty L R (λv R'=> ∃g,v= .slice (some ⟨g,0,none⟩) len len/\R'=⟨e,1,some ⟨g,0,none⟩,len,len,vals,false⟩::R):=by
 have hf:=aAk vals [] (((Array.range (len*1)).map ((bif Nat.beq (len*1) 0 then #[] else z.cells)[· %(bif Nat.beq (len*1) 0 then #[] else z.cells).size]!)).toList) h1 (by simp[hl]);simp only[jl,je,Array.toArray_toList] at hf;have:=pO (P:=P) (n:=n) (B:=B) (w0:=w0) (L:=L) (R:=R) (ty:=ty) (len:=len) ht db hv (by rw[qw];exact re) re hf (by simp[hl]);simpa using this
theorem bL {t e:TypeId} {z:Value} {len:Nat} {ps:List (Nat × Operand)} (k:IntKind) (l:List Int) (ht:P.underlying t=some (.slice e)) (db:(P.info? e).map (λi=>(i.zero,i.size))=some (some z,1)) (hv:evp L ps=some (enu 0 (ints k l)))
  (hl:l.length=len) (re:Nat.ble len 16777216=true):
  Ac P n B w0 (.buildSlice t len ps.toArray) ty L R (λv R'=> ∃g,v= .slice (some ⟨g,0,none⟩) len len/\R'=⟨e,1,some ⟨g,0,none⟩,len,len,ints k l,false⟩::R):=
 mE (ints k l) ht db hv (by rw[ww];exact BV k l) (by rw[cZ,hl]) re
theorem Rd.lenI {w:World} {A:Option Addr} {m c:Nat} {k:IntKind} {l:List Int} (h:Rd w A m c 1 (ints k l)):m=l.length:=by
 have:=h.len;rw[cZ] at this;omega
end
end Go.Eng
namespace Go.Eng
open Go Go.RowKit
section
variable {P:Program} {n:Nd} {B:Nat} {w0:World} {ops:Array Oper} {l:List Oper} {K:Env->List Row->Prop} {L:Env} {R:List Row} {op:Op} {ty:TypeId} {pos:String} {mm:Array Edge} {d:Nat}
theorem wy {v:Value} (hy:Yl P n B w0 op ty L R v) (h:WR P n B w0 ops l K ((d,v)::L) R) (hn:Nat.blt d n=true:=by exact rfl):WR P n B w0 ops ({dst:=some d,op:=op,type:=ty,pos:=pos,after:=mm,guard:=none}::l) K L R:=aCu hn hy h
theorem wa {Post:Value->List Row->Prop} (ha:Ac P n B w0 op ty L R Post) (h: ∀v R',Post v R'->WR P n B w0 ops l K ((d,v)::L) R') (hn:Nat.blt d n=true:=by exact rfl):WR P n B w0 ops ({dst:=some d,op:=op,type:=ty,pos:=pos,after:=mm,guard:=none}::l) K L R:=bNx hn ha h
theorem wm {x:Operand} {v:Value} (hx:ev L x=some v) (h:WR P n B w0 ops l K ((d,v)::L) R) (hn:Nat.blt d n=true:=by exact rfl):WR P n B w0 ops ({dst:=some d,op:= .move x,type:=ty,pos:=pos,after:=mm,guard:=none}::l) K L R:=aCu hn (aM hx) h
theorem wg {x:Operand} {v:Value} (hx:ev L x=some v) (h:WR P n B w0 ops l K ((d,v)::L) R) (hn:Nat.blt d n=true:=by exact rfl):WR P n B w0 ops ({dst:=some d,op:= .assign x,type:=ty,pos:=pos,after:=mm,guard:=none}::l) K L R:=aCu hn (bG hx) h
theorem wA {x y:Operand} {t u:TypeId} {p q:Int} (hx:ev L x=some (.int .i64 p)) (hy:ev L y=some (.int .i64 q)) (h:WR P n B w0 ops l K ((d, .int .i64 (p+q))::L) R) (hn:Nat.blt d n=true:=by exact rfl) (hb: -9223372036854775808<=p+q/\p+q<=9223372036854775807:=by omega):WR P n B w0 ops ({dst:=some d,op:= .binOp .add t x y u,type:=ty,pos:=pos,after:=mm,guard:=none}::l) K L R:=aCu hn (dG hx hy hb) h
theorem wS {x y:Operand} {t u:TypeId} {p q:Int} (hx:ev L x=some (.int .i64 p)) (hy:ev L y=some (.int .i64 q)) (h:WR P n B w0 ops l K ((d, .int .i64 (p-q))::L) R) (hn:Nat.blt d n=true:=by exact rfl) (hb: -9223372036854775808<=p-q/\p-q<=9223372036854775807:=by omega):WR P n B w0 ops ({dst:=some d,op:= .binOp .sub t x y u,type:=ty,pos:=pos,after:=mm,guard:=none}::l) K L R:=aCu hn (iK hx hy hb) h
theorem wL {x y:Operand} {t u:TypeId} {k:IntKind} {p q:Int} (hx:ev L x=some (.int k p)) (hy:ev L y=some (.int k q)) (h:WR P n B w0 ops l K ((d, .bool (decide (p<q)))::L) R) (hn:Nat.blt d n=true:=by exact rfl):WR P n B w0 ops ({dst:=some d,op:= .binOp .lss t x y u,type:=ty,pos:=pos,after:=mm,guard:=none}::l) K L R:=aCu hn (eG hx hy) h
theorem wX {i:Nat} {x:Operand} {vs:Array Value} {v:Value} (hx:ev L x=some (.tuple vs)) (hv:vs[i]? =some v) (h:WR P n B w0 ops l K ((d,v)::L) R) (hn:Nat.blt d n=true:=by exact rfl):WR P n B w0 ops ({dst:=some d,op:= .extract x i,type:=ty,pos:=pos,after:=mm,guard:=none}::l) K L R:=aCu hn (gY hx hv) h
theorem wD {v:Value} {ac:Nat} {ab:Array Bool} (i:Nat) (hi:ops[i]? =some {dst:=some d,op:=op,type:=ty,pos:=pos,after:=mm,guard:=none}) (hy:Yl P n B w0 op ty L R v) (h:WD P n B w0 ops K ac (ab.setIfInBounds i true) ((d,v)::L) R) (hc:chk ops ab i=true:=by kernel_rfl) (hn:Nat.blt d n=true:=by exact rfl):WD P n B w0 ops K (ac+1) ab L R:=bNz i hi hc hn hy h
theorem wq {id:Nat} {l:List Oper} {y:Code} {Q:fC} (h:WR P n B w0 l.toArray l (λL R=>W P n B w0 y Q L R) L R) (hd:yF n.rd l=true:=by exact rfl):W P n B w0 (.seq (.region id l.toArray false) y) Q L R:=aD (aN h hd)
theorem mbA {p q:Prop} [Decidable p] [Decidable q] (h:p↔q:=by first|omega|exact⟨λh=>⟨cF,h⟩,λh=>h.2⟩|exact .inl cF|exact⟨.inr,λh=>h.resolve_left cF⟩|exact⟨λh=>h.resolve_left cF, .inr⟩|simp[*]):Value.bool (decide p)=Value.bool (decide q):=mb h
theorem mfA {p:Prop} [Decidable p] (h: ¬p:=by first|omega|exact⟨λh=>⟨cF,h⟩,λh=>h.2⟩|exact .inl cF|exact⟨.inr,λh=>h.resolve_left cF⟩|exact⟨λh=>h.resolve_left cF, .inr⟩|simp[*]):Value.bool false=Value.bool (decide p):=bOf h
theorem mtA {p:Prop} [Decidable p] (h:p:=by first|omega|exact⟨λh=>⟨cF,h⟩,λh=>h.2⟩|exact .inl cF|exact⟨.inr,λh=>h.resolve_left cF⟩|exact⟨λh=>h.resolve_left cF, .inr⟩|simp[*]):Value.bool true=Value.bool (decide p):=bOe h
theorem wG {j e:Nat} {want:Bool} {v:Value} {ac:Nat} {ab:Array Bool} (i:Nat) (hi:ops[i]? =some {dst:=some d,op:=op,type:=ty,pos:=pos,after:=mm,guard:=some (j,want)}) (hj:(ops[j]?).bind (·.dst)=some e) (hb:lk L e=some (.bool want)) (hy:Yl P n B w0 op ty L R v) (h:WD P n B w0 ops K ac (ab.setIfInBounds i true) ((d,v)::L) R) (hc:chk ops ab i=true:=by kernel_rfl) (hn:Nat.blt d n=true:=by exact rfl):WD P n B w0 ops K (ac+1) ab L R:=bJd i hi hc hn hj hb hy h
theorem wO {j e:Nat} {want b:Bool} {ac:Nat} {ab:Array Bool} (i:Nat) (hi:ops[i]? =some {dst:=some d,op:=op,type:=ty,pos:=pos,after:=mm,guard:=some (j,want)}) (hj:(ops[j]?).bind (·.dst)=some e) (hb:lk L e=some (.bool b)) (h:WD P n B w0 ops K ac (ab.setIfInBounds i true) ((d,undef)::L) R) (hc:chk ops ab i=true:=by kernel_rfl) (hn:Nat.blt d n=true:=by exact rfl) (dv:(b==want)=false:=by exact rfl):WD P n B w0 ops K (ac+1) ab L R:=bJe i hi hc hn hj hb dv h
theorem wC {Post:Value->List Row->Prop} {ac:Nat} {ab:Array Bool} (i:Nat) (hi:ops[i]? =some {dst:=some d,op:=op,type:=ty,pos:=pos,after:=mm,guard:=none}) (ha:Ac P n B w0 op ty L R Post) (h: ∀v R',Post v R'->(NN ops ab i=true\/ ∀w,Hp B w0 w R'->Hp B w0 w R)/\WD P n B w0 ops K ac (ab.setIfInBounds i true) ((d,v)::L) R') (hr:Region.ready .any ops ab=[i]:=by kernel_rfl) (hn:Nat.blt d n=true:=by exact rfl):WD P n B w0 ops K (ac+1) ab L R:=bOb i hi hr hn ha h
theorem wN {ac:Nat} {ab:Array Bool} (h:K L R) (hr:Region.ready .any ops ab=[]:=by kernel_rfl):WD P n B w0 ops K ac ab L R:=bFp hr h
theorem wn {x:Operand} {v:Value} (hx:ev L x=some v) (h:K ((d,v)::L) R) (hn:Nat.blt d n=true:=by exact rfl):WR P n B w0 ops ({dst:=some d,op:= .assign x,type:=ty,pos:=pos,after:=mm,guard:=none}::[]) K L R:=wg hx (aA h) hn
theorem sc {L1 L:Env} {t:Nat} {v:Value} (h:lk L t=some v) (hs:Sub L1 L):Sub ((t,v)::L1) L:=Sub.cons h hs
theorem SA {L1 L:Env} (h:Sub L1 L:=by repeat' first|exact Sub.nil|refine sc rfl ?_|refine Sub.to rfl mbA ?_|refine Sub.to rfl mfA ?_|refine Sub.to rfl mtA ?_):Sub L1 L:=h
abbrev I (x:Int):Value:= .int .i64 x
abbrev GG (g:Nat):Option Addr:=some ⟨g,0,none⟩
abbrev PG (g:Nat):Value:= .pointer (GG g)
abbrev sl (A:Option Addr) (m c:Nat):Value:= .slice A m c
abbrev bt:Value:= .bool true
abbrev bf:Value:= .bool false
abbrev rc (e s g:Nat) (l:List Value):Row:=⟨e,s,some ⟨g,0,none⟩,1,1,l,false⟩
abbrev ri (e:TypeId) (A:Option Addr) (m c:Nat) (l:List Int):Row:=⟨e,1,A,m,c,ints .i64 l,false⟩
abbrev ru (e:TypeId) (A:Option Addr) (m c:Nat) (l:List Int):Row:=⟨e,1,A,m,c,ints .u8 l,false⟩
end
end Go.Eng
namespace Go.Proofs.YtdbebmmhdefgdaaGreat
open Go Go.Eng
theorem mixed:Tryz.prog.follows .mixedOrders=true:=cA
theorem sz2:(Tryz.prog.info? 2).map (·.size)=some 1:=cA
theorem sz3:(Tryz.prog.info? 3).map (·.size)=some 1:=cA
theorem zb3:(Tryz.prog.info? 3).map (λi=>(i.zero,i.size,i.bytes))=some (some (.int .i64 0),1,8):=cA
theorem zs3:(Tryz.prog.info? 3).map (λi=>(i.zero,i.size))=some (some (.int .i64 0),1):=cA
theorem sz4:(Tryz.prog.info? 4).map (·.size)=some 1:=cA
theorem zb4:(Tryz.prog.info? 4).map (λi=>(i.zero,i.size,i.bytes))=some (some (.bool false),1,1):=cA
theorem sz5:(Tryz.prog.info? 5).map (·.size)=some 1:=cA
theorem zb5:(Tryz.prog.info? 5).map (λi=>(i.zero,i.size,i.bytes))=some (some (.int .u8 0),1,1):=cA
theorem zs5:(Tryz.prog.info? 5).map (λi=>(i.zero,i.size))=some (some (.int .u8 0),1):=cA
theorem bOd:(Tryz.prog.info? 21).map (·.size)=some 1:=cA
theorem dA:(Tryz.prog.info? 22).map (·.size)=some 1:=cA
theorem aYt:(Tryz.prog.info? 22).map (λi=>(i.zero,i.size,i.bytes))=some (some (.slice none 0 0),1,24):=cA
theorem xY:(Tryz.prog.info? 22).map (λi=>(i.zero,i.size))=some (some (.slice none 0 0),1):=cA
theorem bIm:(Tryz.prog.info? 22).map (·.zero)=some (some (.slice none 0 0)):=cA
theorem mG:(Tryz.prog.info? 23).map (·.size)=some 1:=cA
theorem yN:(Tryz.prog.info? 25).map (·.size)=some 2:=cA
theorem bIl:(Tryz.prog.info? 25).map (·.zero)=some (some (.agg #[(.slice none 0 0),(.slice none 0 0)])):=cA
theorem fD:(Tryz.prog.info? 27).map (·.size)=some 4:=cA
theorem bIk:(Tryz.prog.info? 27).map (·.zero)=some (some (.agg #[(.int .i64 0),(.int .i64 0),(.int .i64 0),(.int .i64 0)])):=cA
theorem eF:(Tryz.prog.info? 52).map (·.size)=some 1:=cA
theorem bNw:(Tryz.prog.info? 52).map (λi=>(i.zero,i.size,i.bytes))=some (some (.slice none 0 0),1,24):=cA
theorem bIo:(Tryz.prog.info? 52).map (λi=>(i.zero,i.size))=some (some (.slice none 0 0),1):=cA
theorem bNv:(Tryz.prog.info? 52).map (·.zero)=some (some (.slice none 0 0)):=cA
theorem TG:(Tryz.prog.info? 56).map (·.size)=some 7:=cA
theorem aKz:(Tryz.prog.info? 84).map (·.size)=some 1:=cA
theorem gQ:(Tryz.prog.info? 100).map (·.size)=some 1:=cA
theorem kT:(Tryz.prog.info? 106).map (·.size)=some 2:=cA
theorem bIt:(Tryz.prog.info? 106).map (λi=>(i.zero,i.size,i.bytes))=some (some (.agg #[(.int .i64 0),(.int .i64 0)]),2,16):=cA
theorem bIr:(Tryz.prog.info? 106).map (λi=>(i.zero,i.size))=some (some (.agg #[(.int .i64 0),(.int .i64 0)]),2):=cA
theorem aHe:(Tryz.prog.info? 106).map (·.zero)=some (some (.agg #[(.int .i64 0),(.int .i64 0)])):=cA
theorem dS:(Tryz.prog.info? 112).map (·.size)=some 1:=cA
theorem aRi:(Tryz.prog.info? 117).map (·.size)=some 2:=cA
theorem bIs:(Tryz.prog.info? 117).map (λi=>(i.zero,i.size,i.bytes))=some (some (.agg #[(.slice none 0 0),(.int .i64 0)]),2,32):=cA
theorem bIq:(Tryz.prog.info? 117).map (λi=>(i.zero,i.size))=some (some (.agg #[(.slice none 0 0),(.int .i64 0)]),2):=cA
theorem bIn:(Tryz.prog.info? 117).map (·.zero)=some (some (.agg #[(.slice none 0 0),(.int .i64 0)])):=cA
theorem aRh:(Tryz.prog.info? 123).map (·.size)=some 1:=cA
theorem aRg:(Tryz.prog.info? 135).map (·.size)=some 1:=cA
theorem aRf:(Tryz.prog.info? 136).map (·.size)=some 3:=cA
theorem zZ:(Tryz.prog.info? 185).map (·.size)=some 1:=cA
theorem bJi:(Tryz.prog.info? 198).map (·.size)=some 3:=cA
theorem bJh:(Tryz.prog.info? 200).map (·.size)=some 1:=cA
theorem bDt:(Tryz.prog.info? 201).map (·.size)=some 256:=cA
theorem aRe:(Tryz.prog.info? 223).map (·.size)=some 1:=cA
theorem bIp:(Tryz.prog.info? 223).map (λi=>(i.zero,i.size))=some (some (.pointer none),1):=cA
theorem XD:(Tryz.prog.info? 228).map (·.size)=some 1:=cA
theorem jZ:(Tryz.prog.info? 230).map (·.size)=some 2:=cA
theorem uS:(Tryz.prog.info? 230).map (λi=>(i.zero,i.size,i.bytes))=some (some (.agg #[(.int .i64 0),(.int .i64 0)]),2,16):=cA
theorem JB:(Tryz.prog.info? 230).map (λi=>(i.zero,i.size))=some (some (.agg #[(.int .i64 0),(.int .i64 0)]),2):=cA
theorem aPy:(Tryz.prog.info? 230).map (·.zero)=some (some (.agg #[(.int .i64 0),(.int .i64 0)])):=cA
theorem PY:(Tryz.prog.info? 248).map (·.size)=some 3:=cA
theorem aRd:(Tryz.prog.info? 269).map (·.size)=some 1:=cA
theorem bJg:(Tryz.prog.info? 350).map (·.size)=some 1:=cA
theorem bIj:(Tryz.prog.info? 350).map (·.zero)=some (some (.pointer none)):=cA
theorem bMq:Enters Tryz.prog 16:=enters Tryz.func16 cA cA
theorem bMo:Enters Tryz.prog 17:=enters Tryz.func17 cA cA
theorem bPf:Enters Tryz.prog 19:=enters Tryz.func19 cA cA
theorem aWa:Enters Tryz.prog 23:=enters Tryz.func23 cA cA
theorem bLj:Enters Tryz.prog 24:=enters Tryz.func24 cA cA
theorem bPe:Enters Tryz.prog 28:=enters Tryz.func28 cA cA
theorem bKr:Enters Tryz.prog 29:=enters Tryz.func29 cA cA
theorem bKk:Enters Tryz.prog 30:=enters qx cA cA
theorem bPd:Enters Tryz.prog 31:=enters rq cA cA
theorem bKh:Enters Tryz.prog 32:=enters Tryz.func32 cA cA
theorem bKb:Enters Tryz.prog 33:=enters Tryz.func33 cA cA
theorem bPc:Enters Tryz.prog 34:=enters Tryz.func34 cA cA
theorem bPb:Enters Tryz.prog 35:=enters Tryz.func35 cA cA
theorem bJx:Enters Tryz.prog 36:=enters Gv cA cA
theorem OV:Enters Tryz.prog 37:=enters Tryz.func37 cA cA
theorem OU:Enters Tryz.prog 38:=enters Tryz.func38 cA cA
theorem bPa:Enters Tryz.prog 39:=enters Tryz.func39 cA cA
theorem bOz:Enters Tryz.prog 40:=enters Tryz.func40 cA cA
theorem bOy:Enters Tryz.prog 41:=enters Jp cA cA
theorem bJv:Enters Tryz.prog 42:=enters Tryz.func42 cA cA
theorem aVt:Enters Tryz.prog 43:=enters Tryz.func43 cA cA
theorem bJu:Enters Tryz.prog 44:=enters Tryz.func44 cA cA
theorem bOx:Enters Tryz.prog 46:=enters Jq cA cA
theorem bOw:Enters Tryz.prog 47:=enters Tryz.func47 cA cA
theorem bOv:Enters Tryz.prog 50:=enters Tryz.func50 cA cA
theorem bOu:Enters Tryz.prog 51:=enters Tryz.func51 cA cA
theorem aAu:Enters Tryz.prog 57:=enters Tryz.func57 cA cA
theorem bHq:Enters Tryz.prog 58:=enters Jr cA cA
theorem bCj:Enters Tryz.prog 59:=enters Tryz.func59 cA cA
theorem bJt:Enters Tryz.prog 60:=enters Tryz.func60 cA cA
theorem bHp:Enters Tryz.prog 61:=enters Js cA cA
theorem OT:Enters Tryz.prog 62:=enters Cy cA cA
theorem bHo:Enters Tryz.prog 63:=enters Jt cA cA
theorem VG:Enters Tryz.prog 64:=enters Ju cA cA
theorem bOt:Enters Tryz.prog 65:=enters Tryz.func65 cA cA
theorem bHn:Enters Tryz.prog 66:=enters Jv cA cA
theorem bHm:Enters Tryz.prog 68:=enters Tryz.func68 cA cA
theorem bOs:Enters Tryz.prog 69:=enters Tryz.func69 cA cA
theorem bOr:Enters Tryz.prog 70:=enters Tryz.func70 cA cA
theorem bOq:Enters Tryz.prog 71:=enters Tryz.func71 cA cA
theorem bOp:Enters Tryz.prog 72:=enters Tryz.func72 cA cA
theorem bOo:Enters Tryz.prog 73:=enters Tryz.func73 cA cA
theorem bHl:Enters Tryz.prog 74:=enters Jw cA cA
theorem bCi:Enters Tryz.prog 75:=enters Tryz.func75 cA cA
theorem bHk:Enters Tryz.prog 76:=enters Tryz.func76 cA cA
theorem aOm:Enters Tryz.prog 77:=enters Tryz.func77 cA cA
theorem aOl:Enters Tryz.prog 78:=enters Tryz.func78 cA cA
theorem bOn:Enters Tryz.prog 79:=enters Tryz.func79 cA cA
theorem bHj:Enters Tryz.prog 81:=enters Tryz.func81 cA cA
theorem bJs:Enters Tryz.prog 82:=enters Tryz.func82 cA cA
theorem bJr:Enters Tryz.prog 83:=enters Tryz.func83 cA cA
theorem bOm:Enters Tryz.prog 84:=enters Gw cA cA
theorem bJq:Enters Tryz.prog 87:=enters Tryz.func87 cA cA
theorem bOl:Enters Tryz.prog 89:=enters Tryz.func89 cA cA
theorem aOk:Enters Tryz.prog 90:=enters Tryz.func90 cA cA
theorem bOk:Enters Tryz.prog 91:=enters Jy cA cA
theorem bOj:Enters Tryz.prog 92:=enters Tryz.func92 cA cA
theorem bJp:Enters Tryz.prog 93:=enters Tryz.func93 cA cA
theorem bJo:Enters Tryz.prog 96:=enters Tryz.func96 cA cA
theorem bNm:Enters Tryz.prog 103:=enters Tryz.func103 cA cA
theorem bFg:Enters Tryz.prog 104:=enters Tryz.func104 cA cA
theorem bFf:Enters Tryz.prog 105:=enters Tryz.func105 cA cA
theorem bNl:Enters Tryz.prog 106:=enters Tryz.func106 cA cA
theorem bFe:Enters Tryz.prog 107:=enters Tryz.func107 cA cA
theorem aBa:Enters Tryz.prog 108:=enters Tryz.func108 cA cA
theorem bFd:Enters Tryz.prog 109:=enters Tryz.func109 cA cA
theorem bFc:Enters Tryz.prog 110:=enters Tryz.func110 cA cA
theorem bFb:Enters Tryz.prog 111:=enters Tryz.func111 cA cA
theorem aJp:Enters Tryz.prog 112:=enters Tryz.func112 cA cA
theorem bFa:Enters Tryz.prog 113:=enters Tryz.func113 cA cA
theorem bNk:Enters Tryz.prog 114:=enters Tryz.func114 cA cA
theorem bNj:Enters Tryz.prog 115:=enters Tryz.func115 cA cA
theorem bNi:Enters Tryz.prog 116:=enters Tryz.func116 cA cA
theorem bNh:Enters Tryz.prog 117:=enters Tryz.func117 cA cA
theorem bNg:Enters Tryz.prog 118:=enters Tryz.func118 cA cA
theorem bEz:Enters Tryz.prog 119:=enters Tryz.func119 cA cA
theorem bNf:Enters Tryz.prog 120:=enters Tryz.func120 cA cA
theorem aAz:Enters Tryz.prog 121:=enters Tryz.func121 cA cA
theorem bEy:Enters Tryz.prog 122:=enters Tryz.func122 cA cA
theorem bEx:Enters Tryz.prog 124:=enters Tryz.func124 cA cA
theorem bEw:Enters Tryz.prog 126:=enters Tryz.func126 cA cA
theorem bEv:Enters Tryz.prog 127:=enters Tryz.func127 cA cA
theorem bNe:Enters Tryz.prog 128:=enters Tryz.func128 cA cA
theorem bNd:Enters Tryz.prog 129:=enters Tryz.func129 cA cA
theorem nD:Enters Tryz.prog 130:=enters Ip cA cA
theorem RS:Enters Tryz.prog 131:=enters Tryz.func131 cA cA
theorem aWo:Enters Tryz.prog 132:=enters Tryz.func132 cA cA
theorem MM:Enters Tryz.prog 133:=enters Tryz.func133 cA cA
theorem RQ:Enters Tryz.prog 134:=enters Iq cA cA
theorem bNc:Enters Tryz.prog 135:=enters Tryz.func135 cA cA
theorem bNb:Enters Tryz.prog 136:=enters Tryz.func136 cA cA
theorem bNa:Enters Tryz.prog 139:=enters Tryz.func139 cA cA
theorem bMz:Enters Tryz.prog 140:=enters Tryz.func140 cA cA
theorem bMy:Enters Tryz.prog 141:=enters Tryz.func141 cA cA
theorem bMx:Enters Tryz.prog 142:=enters Tryz.func142 cA cA
theorem bMw:Enters Tryz.prog 143:=enters Tryz.func143 cA cA
theorem bMv:Enters Tryz.prog 144:=enters Tryz.func144 cA cA
theorem bMu:Enters Tryz.prog 145:=enters Tryz.func145 cA cA
theorem bEu:Enters Tryz.prog 146:=enters Tryz.func146 cA cA
theorem bMt:Enters Tryz.prog 147:=enters Tryz.func147 cA cA
theorem bMs:Enters Tryz.prog 148:=enters Tryz.func148 cA cA
theorem aWn:Enters Tryz.prog 149:=enters Ir cA cA
theorem aWm:Enters Tryz.prog 150:=enters Tryz.func150 cA cA
theorem aJo:Enters Tryz.prog 156:=enters Tryz.func156 cA cA
theorem bMr:Enters Tryz.prog 157:=enters Tryz.func157 cA cA
theorem aWl:Enters Tryz.prog 158:=enters Iu cA cA
theorem aWk:Enters Tryz.prog 159:=enters Iw cA cA
theorem aWj:Enters Tryz.prog 160:=enters Tryz.func160 cA cA
theorem aWi:Enters Tryz.prog 161:=enters Iy cA cA
theorem bMp:Enters Tryz.prog 165:=enters Tryz.func165 cA cA
theorem aWh:Enters Tryz.prog 166:=enters Iz cA cA
theorem aJn:Enters Tryz.prog 168:=enters Tryz.func168 cA cA
theorem aWg:Enters Tryz.prog 170:=enters Tryz.func170 cA cA
theorem aWf:Enters Tryz.prog 172:=enters Tryz.func172 cA cA
theorem bMn:Enters Tryz.prog 178:=enters Tryz.func178 cA cA
theorem bMm:Enters Tryz.prog 179:=enters Tryz.func179 cA cA
theorem bMl:Enters Tryz.prog 181:=enters Tryz.func181 cA cA
theorem bMk:Enters Tryz.prog 182:=enters Tryz.func182 cA cA
theorem bMj:Enters Tryz.prog 183:=enters Tryz.func183 cA cA
theorem bMi:Enters Tryz.prog 184:=enters Tryz.func184 cA cA
theorem bMh:Enters Tryz.prog 185:=enters Tryz.func185 cA cA
theorem bEt:Enters Tryz.prog 186:=enters Tryz.func186 cA cA
theorem bMg:Enters Tryz.prog 187:=enters Tryz.func187 cA cA
theorem bMf:Enters Tryz.prog 188:=enters Tryz.func188 cA cA
theorem bMe:Enters Tryz.prog 189:=enters Tryz.func189 cA cA
theorem bMd:Enters Tryz.prog 190:=enters Tryz.func190 cA cA
theorem bEs:Enters Tryz.prog 194:=enters Ja cA cA
theorem bEr:Enters Tryz.prog 197:=enters Tryz.func197 cA cA
theorem aWe:Enters Tryz.prog 200:=enters Tryz.func200 cA cA
theorem bEq:Enters Tryz.prog 201:=enters Tryz.func201 cA cA
theorem bEp:Enters Tryz.prog 202:=enters Tryz.func202 cA cA
theorem bEo:Enters Tryz.prog 203:=enters Tryz.func203 cA cA
theorem bMc:Enters Tryz.prog 204:=enters Tryz.func204 cA cA
theorem aWd:Enters Tryz.prog 205:=enters Tryz.func205 cA cA
theorem aWc:Enters Tryz.prog 206:=enters Tryz.func206 cA cA
theorem bMb:Enters Tryz.prog 209:=enters Tryz.func209 cA cA
theorem bMa:Enters Tryz.prog 210:=enters Tryz.func210 cA cA
theorem bLz:Enters Tryz.prog 211:=enters Tryz.func211 cA cA
theorem bLy:Enters Tryz.prog 212:=enters Tryz.func212 cA cA
theorem aWb:Enters Tryz.prog 213:=enters Tryz.func213 cA cA
theorem bLx:Enters Tryz.prog 214:=enters Tryz.func214 cA cA
theorem bLw:Enters Tryz.prog 215:=enters Tryz.func215 cA cA
theorem bLv:Enters Tryz.prog 216:=enters Tryz.func216 cA cA
theorem bLu:Enters Tryz.prog 217:=enters Tryz.func217 cA cA
theorem bLt:Enters Tryz.prog 218:=enters Tryz.func218 cA cA
theorem bLs:Enters Tryz.prog 219:=enters Tryz.func219 cA cA
theorem bLr:Enters Tryz.prog 220:=enters Tryz.func220 cA cA
theorem bLq:Enters Tryz.prog 221:=enters Tryz.func221 cA cA
theorem bLp:Enters Tryz.prog 227:=enters Tryz.func227 cA cA
theorem bLo:Enters Tryz.prog 228:=enters Tryz.func228 cA cA
theorem bLn:Enters Tryz.prog 229:=enters Tryz.func229 cA cA
theorem aVz:Enters Tryz.prog 231:=enters Tryz.func231 cA cA
theorem aVy:Enters Tryz.prog 232:=enters Tryz.func232 cA cA
theorem bLm:Enters Tryz.prog 233:=enters Tryz.func233 cA cA
theorem bLl:Enters Tryz.prog 237:=enters Tryz.func237 cA cA
theorem bLk:Enters Tryz.prog 238:=enters Tryz.func238 cA cA
theorem ML:Enters Tryz.prog 239:=enters Tryz.func239 cA cA
theorem bLi:Enters Tryz.prog 240:=enters Tryz.func240 cA cA
theorem bEn:Enters Tryz.prog 241:=enters Tryz.func241 cA cA
theorem bLh:Enters Tryz.prog 242:=enters Tryz.func242 cA cA
theorem bLg:Enters Tryz.prog 258:=enters Tryz.func258 cA cA
theorem aVx:Enters Tryz.prog 259:=enters Tryz.func259 cA cA
theorem bLf:Enters Tryz.prog 260:=enters Tryz.func260 cA cA
theorem bLe:Enters Tryz.prog 261:=enters Tryz.func261 cA cA
theorem bLd:Enters Tryz.prog 262:=enters Tryz.func262 cA cA
theorem bLc:Enters Tryz.prog 263:=enters Tryz.func263 cA cA
theorem aAy:Enters Tryz.prog 264:=enters Tryz.func264 cA cA
theorem bEm:Enters Tryz.prog 265:=enters Tryz.func265 cA cA
theorem bEl:Enters Tryz.prog 266:=enters Tryz.func266 cA cA
theorem bLb:Enters Tryz.prog 267:=enters Tryz.func267 cA cA
theorem bLa:Enters Tryz.prog 268:=enters Tryz.func268 cA cA
theorem bKz:Enters Tryz.prog 269:=enters Tryz.func269 cA cA
theorem bKy:Enters Tryz.prog 270:=enters Tryz.func270 cA cA
theorem bKx:Enters Tryz.prog 271:=enters Tryz.func271 cA cA
theorem bKw:Enters Tryz.prog 272:=enters Tryz.func272 cA cA
theorem bKv:Enters Tryz.prog 273:=enters Tryz.func273 cA cA
theorem bKu:Enters Tryz.prog 274:=enters Tryz.func274 cA cA
theorem bKt:Enters Tryz.prog 276:=enters Tryz.func276 cA cA
theorem bKs:Enters Tryz.prog 277:=enters Tryz.func277 cA cA
theorem aJm:Enters Tryz.prog 278:=enters Tryz.func278 cA cA
theorem aAx:Enters Tryz.prog 279:=enters Tryz.func279 cA cA
theorem aJl:Enters Tryz.prog 280:=enters Tryz.func280 cA cA
theorem bEk:Enters Tryz.prog 290:=enters Tryz.func290 cA cA
theorem bEj:Enters Tryz.prog 291:=enters Tryz.func291 cA cA
theorem bKq:Enters Tryz.prog 292:=enters Tryz.func292 cA cA
theorem RP:Enters Tryz.prog 293:=enters Tryz.func293 cA cA
theorem bKp:Enters Tryz.prog 294:=enters Tryz.func294 cA cA
theorem bEi:Enters Tryz.prog 295:=enters Tryz.func295 cA cA
theorem bKo:Enters Tryz.prog 296:=enters Tryz.func296 cA cA
theorem bKn:Enters Tryz.prog 297:=enters Tryz.func297 cA cA
theorem bKm:Enters Tryz.prog 298:=enters Tryz.func298 cA cA
theorem bKl:Enters Tryz.prog 299:=enters Tryz.func299 cA cA
theorem aVw:Enters Tryz.prog 300:=enters Tryz.func300 cA cA
theorem aVv:Enters Tryz.prog 301:=enters Tryz.func301 cA cA
theorem aVu:Enters Tryz.prog 302:=enters Tryz.func302 cA cA
theorem bEh:Enters Tryz.prog 313:=enters Tryz.func313 cA cA
theorem bEg:Enters Tryz.prog 314:=enters Tryz.func314 cA cA
theorem bEf:Enters Tryz.prog 315:=enters Tryz.func315 cA cA
theorem bKj:Enters Tryz.prog 316:=enters Tryz.func316 cA cA
theorem bEe:Enters Tryz.prog 317:=enters Tryz.func317 cA cA
theorem bEd:Enters Tryz.prog 318:=enters Tryz.func318 cA cA
theorem bKi:Enters Tryz.prog 319:=enters Tryz.func319 cA cA
theorem bKg:Enters Tryz.prog 320:=enters Tryz.func320 cA cA
theorem bEc:Enters Tryz.prog 321:=enters Tryz.func321 cA cA
theorem bKf:Enters Tryz.prog 322:=enters Tryz.func322 cA cA
theorem bKe:Enters Tryz.prog 323:=enters Tryz.func323 cA cA
theorem aAw:Enters Tryz.prog 324:=enters Tryz.func324 cA cA
theorem bKd:Enters Tryz.prog 325:=enters Tryz.func325 cA cA
theorem bKc:Enters Tryz.prog 326:=enters Tryz.func326 cA cA
theorem aAv:Enters Tryz.prog 327:=enters Tryz.func327 cA cA
theorem bKa:Enters Tryz.prog 344:=enters Tryz.func344 cA cA
theorem bJz:Enters Tryz.prog 345:=enters Tryz.func345 cA cA
theorem bJy:Enters Tryz.prog 346:=enters Tryz.func346 cA cA
theorem bEb:Enters Tryz.prog 347:=enters Tryz.func347 cA cA
theorem bJw:Enters Tryz.prog 361:=enters Tryz.func361 cA cA
end Go.Proofs.YtdbebmmhdefgdaaGreat
namespace Go.Pure
open Go.Eng
variable {i k:Int} {u v:List Int} {f:Nat}
def iD (a b:Int):Int:=if a<b then -1 else if b<a then 1 else 0
def cmpL:List Int->List Int->Int
 |[],[]=>0
 |[],_::_=> -1
 |_::_,[]=>1
 |a::s,b::t=>if a<b then -1 else if b<a then 1 else cmpL s t
theorem iT {l:List Int} (h0:0<=i) (h:i<l.length):l.drop i.toNat=rd l i::l.drop (i+1).toNat:=by
 have hl:i.toNat<l.length:=G
 have e:(i+1).toNat=i.toNat+1:=G
 rw[e,ku hl];simp[rd,ai,av hl]
theorem qA (h0:0<=i) (hu:i<u.length) (hv:i<v.length):
  cmpL (u.drop i.toNat) (v.drop i.toNat)=if rd u i<rd v i then -1 else if rd v i<rd u i then 1 else cmpL (u.drop (i+1).toNat) (v.drop (i+1).toNat):=by
 rw[iT h0 hu,iT h0 hv];rfl
theorem sM (h0:0<=i) (hu:i<=u.length) (hv:i<=v.length) (h: ¬(i<u.length/\i<v.length)):
  cmpL (u.drop i.toNat) (v.drop i.toNat)=if (u.length:Int)<v.length then -1 else if (v.length:Int)<u.length then 1 else 0:=by
 have nil: ∀(l:List Int) (j:Int),(l.length:Int)<=j->l.drop j.toNat=[]:=λl j h=>oq G;by_cases h1:i<u.length
 ·have h2:i=v.length:=G
  rw[iT h0 h1,nil v i G,bu G,df G];rfl
 ·by_cases h2:i<v.length
  ·rw [iT h0 h2,nil u i G,df G];rfl
  ·rw [nil u i G,nil v i G,bu G,bu G];rfl
def MX (u v:List Int):Nat->Int->Int
 |0,_=>0
 |f+1,k=>if rd u (k%u.length)<rd v (k%v.length) then -1 else if rd v (k%v.length)<rd u (k%u.length) then 1 else MX u v f (k+1)
def MZ (u v:List Int):Int:=
 if (u.length:Int)=0\/(v.length:Int)=0 then iD (min u.length 1) (min v.length 1) else MX u v (u.length+v.length) 0
theorem aOz (a b:Int):iD b a= -iD a b:=by unfold iD;split<;>split<;>omega
theorem RY (h:rd u (k%u.length)=rd v (k%v.length)):MX u v (f+1) k=MX u v f (k+1):=by
 rw[MX,bu G,bu G]
theorem MW (hf:0<f) (h:iD (rd u (k%u.length)) (rd v (k%v.length))≠0):MX u v f k=iD (rd u (k%u.length)) (rd v (k%v.length)):=by
 obtain⟨f,rfl⟩: ∃g,f=g+1:=⟨f-1,G⟩;unfold MX iD at*;split
 ·rfl
 ·split
  ·rfl
  ·rename_i h1 h2;rw[bu h1,bu h2] at h;exact absurd rfl h
theorem bCr (hf:0<f) (h:iD (rd u (k%u.length)) (rd v (k%v.length))=0):MX u v f k=MX u v (f-1) (k+1):=by
 obtain⟨f,rfl⟩: ∃g,f=g+1:=⟨f-1,G⟩;refine RY ?_;unfold iD at h;split at h
 ·omega
 ·split at h<;>omega
def rep (w:List Int) (k:Int):List Int:=(List.replicate k.toNat w).flatten
theorem qG (w:List Int) (k:Int):(rep w k).length=k.toNat*w.length:=by
 unfold rep;rw[uk,List.map_replicate,List.sum_replicate_nat]
theorem aGa (u v:List Int) (h:(u.length:Int)=0\/(v.length:Int)=0):cmpL (u.take (min (u.length:Int) 1).toNat) (v.take (min (v.length:Int) 1).toNat)=iD (min u.length 1) (min v.length 1):=by
 cases u with
 | nil=>cases v with
  |nil=>rfl
  |cons b t=>
   have e:(min (((b::t).length:Nat):Int) 1)=1:=by simp only[dh];omega
   rw[e];rfl
 | cons a s=>cases v with
  |nil=>
   have e:(min (((a::s).length:Nat):Int) 1)=1:=by simp only[dh];omega
   rw[e];rfl
  |cons b t=>simp only[dh] at h;omega
variable {u v:List Int} {d N:Nat} {c:Int}
def om (u:List Int) (i:Nat):Int:=u.getD (i%u.length) 0
theorem LG (u:List Int) (k:Nat):rd u ((k:Int)%u.length)=om u k:=by
 unfold rd om;rw[<-Ah,cu]
theorem FW {i:Nat} (h:i<u.length):om u i=u.getD i 0:=by
 unfold om;rw[lc h]
def Per (W:Nat->Int) (d:Nat):Prop:= ∀i,W (i+d)=W i
theorem rJ (u:List Int):Per (om u) u.length:=by
 intro i;unfold om;rw[Nat.add_mod_right]
theorem Per.mul {W:Nat->Int} (h:Per W d): ∀k,Per W (d*k)
 |0=>λi=>by rw[Nat.mul_zero,qm]
 |k+1=>λi=>by rw[Nat.mul_succ,<-mr,h,h.mul k]
theorem Per.mod {W:Nat->Int} (h:Per W d) (i:Nat):W (i%d)=W i:=by
 have:=h.mul (i/d) (i%d);rw[Nat.mod_add_div] at this;exact this.symm
theorem Per.gcd {W:Nat->Int} (a b:Nat):Per W a->Per W b->Per W (Nat.gcd a b):=by
 induction a,b using Nat.gcd.induction with
 |H0 n=>intro _ h;rw[Nat.gcd_zero_left];exact h
 |H1 m n hm ih=>
  intro h1 h2;rw[Nat.gcd_rec];refine ih ?_ h1;intro i;have e:=h1.mul (n/m) (i+n%m);rw[mr,Nat.mod_add_div] at e;rw[<-e];exact h2 i
theorem agree {U V:Nat->Int} {p q:Nat} (hp:0<p) (hq:0<q) (hU:Per U p) (hV:Per V q) (h: ∀i,i<p+q->U i=V i): ∀i,U i=V i:=by
 intro i
 induction i using Nat.strongRecOn with
 | _ i ih=>
  by_cases hi:i<p+q
  ·exact h i hi
  ·have e1:U i=U (i-p):=by have:=hU (i-p);rw[qy G] at this;exact this
   have e2:V (i-p)=V (i-p-q):=by have:=hV (i-p-q);rw[qy G] at this;exact this
   have e3:U (i-q)=U (i-p-q):=by have:=hU (i-p-q);rw[show i-p-q+p=i-q by omega] at this;exact this
   have e4:V i=V (i-q):=by have:=hV (i-q);rw[qy G] at this;exact this
   rw[e1,ih (i-p) G,e2,<-ih (i-p-q) G,<-e3,ih (i-q) G,<-e4]
def FD (U V:Nat->Int) (N:Nat) (c:Int):Prop:=(c=0/\ ∀i,i<N->U i=V i)\/ ∃k,k<N/\(∀i,i<k->U i=V i)/\U k≠V k/\c=iD (U k) (V k)
theorem jW {a b:Int}:iD a b=0↔a=b:=by unfold iD;split<;>(try split)<;>omega
theorem FD.uniq {U V:Nat->Int} {M:Nat} {d:Int} (h:FD U V N c) (h':FD U V M d) (hc:c=0-> ∀i,i<M->U i=V i) (hd:d=0-> ∀i,i<N->U i=V i):c=d:=by
 rcases h with⟨rfl,h⟩|⟨k,hk,h,hn,e⟩
 ·rcases h' with⟨rfl,_⟩|⟨k',ob,_,Uy,e'⟩
  ·rfl
  ·exact absurd (hc rfl k' ob) Uy
 ·rcases h' with⟨rfl,h'⟩|⟨k',ob,h',Uy,e'⟩
  ·exact absurd (hd rfl k hk) hn
  ·have:k=k':=by
    by_cases h1:k<k'
    ·exact absurd (h' k h1) hn
    ·by_cases h2:k'<k
     ·exact absurd (h k' h2) Uy
     ·omega
   subst this;rw[e,e']
theorem FD.step {U V:Nat->Int} (h0:U 0=V 0) (h:FD (λi=>U (i+1)) (λi=>V (i+1)) N c):FD U V (N+1) c:=by
 rcases h with⟨rfl,h⟩|⟨k,hk,h,hn,e⟩
 ·refine .inl ⟨rfl,λi hi=> ?_⟩;cases i with
  |zero=>exact h0
  |succ i=>exact h i G
 ·refine .inr ⟨k+1,G,λi hi=> ?_,hn,e⟩;cases i with
  |zero=>exact h0
  |succ i=>exact h i G
theorem aJv (u v:List Int): ∀(f k:Nat),FD (λi=>om u (i+k)) (λi=>om v (i+k)) f (MX u v f k)
 |0,_=> .inl ⟨rfl,λi hi=>G⟩
 | f+1,k=>by
  by_cases h:om u k=om v k
  ·rw [RY (by rw[LG,LG];exact h)];have ih:=aJv u v f (k+1);refine FD.step (by simpa using h) ?_;have e:((k+1:Nat):Int)=(k:Int)+1:=G
   rw[<-e];simpa [mr,vz 1 k] using ih
  ·refine .inr ⟨0,G,λi hi=>G,by simpa using h,?_⟩;rw[MW G (by rw[LG,LG];exact λe=>h (jW.1 e)),LG,LG];simp
theorem aJw (hu:0<u.length) (hv:0<v.length):FD (om u) (om v) (u.length+v.length) (MZ u v):=by
 unfold MZ;rw[bu G];have:=aJv u v (u.length+v.length) 0;simpa using this
def Lt (U V:Nat->Int):Prop:= ∃k,(∀i,i<k->U i=V i)/\U k<V k
theorem Lt.trans {U V W:Nat->Int} (h:Lt U V) (h':Lt V W):Lt U W:=by
 obtain⟨k,h,hk⟩:=h;obtain⟨m,h',hm⟩:=h';by_cases h1:k<m
 ·exact⟨k,λi hi=>by rw[h i hi,h' i G],by rw[<-h' k h1];exact hk⟩
 ·by_cases h2:m<k
  ·exact⟨m,λi hi=>by rw[h i G,h' i hi],by rw[h m h2];exact hm⟩
  ·have:k=m:=G
   subst this;exact⟨k,λi hi=>by rw[h i hi,h' i hi],G⟩
theorem aXi (hu:0<u.length) (hv:0<v.length):MZ u v<0↔Lt (om u) (om v):=by
 constructor
 ·intro h;rcases aJw hu hv with⟨e,_⟩|⟨k,_,hk,hn,e⟩
  ·omega
  ·refine ⟨k,hk,?_⟩;rw[e] at h;unfold iD at h;split at h
   ·assumption
   ·split at h<;>omega
 ·rintro ⟨k,hk,bc⟩;rcases aJw hu hv with⟨e,h⟩|⟨m,_,hm,hn,e⟩
  ·have:=agree hu hv (rJ u) (rJ v) h k;omega
  ·have:k=m:=by
    by_cases h1:k<m
    ·have:=hm k h1;omega
    ·by_cases h2:m<k
     ·exact absurd (hk m h2) hn
     ·omega
   subst this;rw[e];unfold iD;rw[df bc];decide
theorem KH (w:List Int): ∀(k i:Nat),i<k*w.length->(rep w k).getD i 0=om w i
 |0,i,h=>G
 | k+1,i,h=>by
  have e:((k+1:Nat):Int)=1+(k:Int):=G
  have e2:rep w ((k+1:Nat):Int)=w++rep w k:=by
   unfold rep;rw[show((k+1:Nat):Int).toNat=k+1 by omega,List.replicate_succ];simp
  rw[e2];by_cases hi:i<w.length
  ·rw[FW hi,ai,ai,ji hi]
  ·rw [ai,ig G,<-ai,KH w k (i-w.length) (by rw[xz] at h;omega)];have:=rJ w (i-w.length);rw[qy G] at this;exact this.symm
variable {u:List Int} {f p:Nat}
def lpF (u:List Int):Nat->Int->Int
 |0,_=>0
 |f+1,p=>if u.drop p.toNat=u.take ((u.length:Int)-p).toNat then p else lpF u f (p+1)
def lp (u:List Int):Int:=lpF u u.length 1
theorem bBp {p:Int} (hf:0<f) (h:u.drop p.toNat=u.take ((u.length:Int)-p).toNat):lpF u f p=p:=by
 obtain⟨f,rfl⟩: ∃g,f=g+1:=⟨f-1,G⟩;rw[lpF,df h]
theorem bHb {p:Int} (hf:0<f) (h: ¬u.drop p.toNat=u.take ((u.length:Int)-p).toNat):lpF u f p=lpF u (f-1) (p+1):=by
 obtain⟨f,rfl⟩: ∃g,f=g+1:=⟨f-1,G⟩;rw[lpF,bu h];rfl
def NW (u:List Int) (p:Nat):Prop:=u.drop p=u.take (u.length-p)
theorem KZ:NW u p↔ ∀i,i+p<u.length->u.getD (i+p) 0=u.getD i 0:=by
 constructor
 ·intro h i hi;have:=bq (λl=>l.getD i 0) h;simp only[ai,ql,ny] at this;rw[df G] at this;rw[ai,ai,vz];exact this
 ·intro h;refine wz cD λi h1 h2=> ?_;simp only[ay] at h1;have:=h i G;simp only[ai] at this;rw[av G,av G] at this;simp only[nz] at this;rw[Be,ym,<-this];simp only[vz]
theorem ZR (u:List Int): ∀(f:Nat) (p:Nat),1<=p->p+f=u.length+1->p<=u.length-> ∃r:Nat,lpF u f p=r/\p<=r/\r<=u.length/\NW u r/\ ∀q,p<=q->q<r-> ¬NW u q
 |0,p,_,h2,h3=>G
 | f +1,p,h1,h2,h3=>by
  have e:((u.length:Int)-(p:Int)).toNat=u.length-p:=G
  by_cases h:NW u p
  ·refine ⟨p,bBp G ?_,di _,h3,h,λq a b=>G⟩;rw[cu,e];exact h
  ·rw [bHb G (by rw[cu,e];exact h)]
   have bc:p<u.length:=by
    rcases fe p u.length with h'|h'
    ·exact h'
    ·have:p=u.length:=G
     subst this;exact absurd (by unfold NW;simp) h
   obtain⟨r,hr,h4,h5,h6,h7⟩:=ZR u f (p+1) G G G;refine⟨r,?_,G,h5,h6,λq a b=> ?_⟩
   ·rw[<-hr];rfl
   ·by_cases hq:q=p
    ·subst hq;exact h
    ·exact h7 q G b
theorem IV (h:0<u.length): ∃r:Nat,lp u=r/\1<=r/\r<=u.length/\NW u r/\ ∀q,1<=q->q<r-> ¬NW u q:=
 ZR u u.length 1 (di 1) G h
def rl (u:List Int):Int:=if (u.length:Int)%lp u≠0 then u.length else lp u
theorem YZ (hp:0<p) (h:NW u p): ∀i,i<u.length->u.getD i 0=u.getD (i%p) 0:=by
 intro i
 induction i using Nat.strongRecOn with
 | _ i ih=>
  intro hi;by_cases bc:i<p
  ·rw[lc bc]
  ·have:=KZ.1 h (i-p) G;rw[qy G] at this;rw[this,ih (i-p) G G,<-zk G]
theorem aIr (hp:0<p) (hn:p<=u.length) (i:Nat):om (u.take p) i=u.getD (i%p) 0:=by
 unfold om;rw[ax,yu hn];simp only[ai];rw[ny,df (yw _ hp)]
theorem bAw (hp:0<p) (hn:p<=u.length) (hd:p∣u.length) (h:NW u p) (i:Nat):om u i=om (u.take p) i:=by
 rw[aIr hp hn];unfold om;rw[YZ hp h _ (yw _ G),Nat.mod_mod_of_dvd _ hd]
theorem aIo {d:Nat} (h:Per (om u) d):NW u d:=by
 refine KZ.2 λi hi=> ?_;rw[<-FW hi,<-FW (by omega:i<u.length)];exact h i
theorem aHz (h:0<u.length): ∃r:Nat,rl u=r/\1<=r/\r<=u.length/\(∀i,om u i=om (u.take r) i)/\ ∀d,1<=d->Per (om u) d->r<=d:=by
 obtain⟨p,hp,h1,h2,h3,h4⟩:=IV h
 have key: ∀d,1<=d->Per (om u) d->d<u.length->p∣u.length/\p<=d:=by
  intro d hd pn bc;have hg:Per (om u) (Nat.gcd d u.length):=Per.gcd _ _ pn (rJ u);have g1:Nat.gcd d u.length∣u.length:=Nat.gcd_dvd_right _ _;have g2:Nat.gcd d u.length<=d:=Nat.le_of_dvd G (Nat.gcd_dvd_left _ _);have g3:0<Nat.gcd d u.length:=Nat.gcd_pos_of_pos_left _ G;generalize Nat.gcd d u.length=g at*
  have p1:p<=g:=by
   rcases fe g p with a|a
   ·exact absurd (aIo hg) (h4 g g3 a)
   ·exact a
  have g4:2*g<=u.length:=by
   obtain⟨k,hk⟩:=g1
   have:2<=k:=by
    rcases fe k 2 with a|a
    ·have:k=0\/k=1:=G
     rcases this with rfl|rfl<;>omega
    ·exact a
   rw[hk]
   calc 2*g<=k*g:=uq _ this
    _=g*k:=Am _ _
  have ag: ∀i,om (u.take p) i=om u i:=by
   refine agree (p:=p) (q:=g) G g3 ?_ hg λi hi=> ?_
   ·have:=rJ (u.take p);rwa[ax,yu h2] at this
   ·rw[aIr G h2,FW G,<-YZ G h3 i G]
  have pp:Per (om u) p:=by
   intro i;rw[<-ag,<-ag];have:=rJ (u.take p) i;rwa[ax,yu h2] at this
  have hh:Per (om u) (Nat.gcd p u.length):=Per.gcd _ _ pp (rJ u);have e1:Nat.gcd p u.length∣p:=Nat.gcd_dvd_left _ _;have e2:Nat.gcd p u.length∣u.length:=Nat.gcd_dvd_right _ _;have e3:0<Nat.gcd p u.length:=Nat.gcd_pos_of_pos_left _ G;have e4:=Nat.le_of_dvd G e1
  have e5:p<=Nat.gcd p u.length:=by
   rcases fe (Nat.gcd p u.length) p with a|a
   ·exact absurd (aIo hh) (h4 _ e3 a)
   ·exact a
  have e6:Nat.gcd p u.length=p:=G
  rw[e6] at e2;exact⟨e2,G⟩
 by_cases hd:p∣u.length
 ·refine ⟨p,?_,h1,h2,bAw G h2 hd h3,λd a b=> ?_⟩
  ·unfold rl;rw[hp,bu]
   ·intro hn;refine hn ?_;rw[<-Ah,Nat.mod_eq_zero_of_dvd hd];rfl
  ·rcases fe d u.length with c|c
   ·exact(key d a b c).2
   ·omega
 ·refine ⟨u.length,?_,G,di _,λi=>by rw[uz],λd a b=> ?_⟩
  ·unfold rl;rw[hp,df];intro hz;rw[<-Ah] at hz;exact hd (Nat.dvd_of_mod_eq_zero G)
  ·rcases fe d u.length with c|c
   ·exact absurd (key d a b c).1 hd
   ·exact c
theorem AR (h:0<u.length):1<=rl u/\rl u<=u.length:=by
 obtain⟨r,e,h1,h2,_⟩:=aHz h;omega
theorem aUb (h:0<u.length):1<=lp u/\lp u<=u.length:=by
 obtain⟨r,e,h1,h2,_⟩:=IV h;omega
theorem bGq {a:Nat} (hu:0<u.length) (ha:0<a) (i:Nat):om (rep u a) i=om u i:=by
 have l:(rep u a).length=a*u.length:=by rw[qG,cu]
 have hp:0<a*u.length:=Jo ha hu;have hm:i%(a*u.length)<a*u.length:=yw _ hp;have e:om (rep u a) i=(rep u a).getD (i%(rep u a).length) 0:=rfl;rw[e,l,KH u a _ hm];unfold om;rw[Nat.mod_mod_of_dvd _ (Nat.dvd_mul_left _ _)]
end Go.Pure
namespace Go.Eng
open Go Go.RowKit
variable {w:World}
theorem bAf (k:IntKind):Rd w none ([]:List Int).length 0 1 (ints k []):=⟨rfl,cD,cD,λj v hv=>by simp[ints] at hv⟩
theorem bAe {k:IntKind} {x:Addr} {len cap:Nat} {zs:List Int} (hl:len<=cap) (hm:cap<=maxLen) (hz:zs.length=cap) (qq: ∀i,i<zs.length->w.cell? (x.add i)=some (.int k (zs.getD i 0))) (Zf: ∀n∈zs,(Lit.int k n).wf=true):
  ∃l:List Int,len=l.length/\Rd w (some x) l.length cap 1 (ints k l)/\ ∀n∈l,(Lit.int k n).wf=true:=by
 unfold maxLen at hm;have hlen:(zs.take len).length=len:=by rw[ax];omega
 refine⟨zs.take len,hlen.symm,⟨by rw[cZ];omega,G,G,λj v hv=>⟨x,rfl,?_⟩⟩,λn hn=>Zf n (lv hn)⟩
 have hj:j<len:=by
  rcases fe j len with h|h
  ·exact h
  ·rw[mf (by rw[cZ];omega)] at hv;cases hv
 rw[qq j G];have hjz:j<zs.length:=G
 simp[ints,hj,av hjz] at hv;subst hv;simp[ai,av hjz]
theorem wR {l:List Int} (h: ∀x∈l,(Lit.int .u8 x).wf=true):aR l:=λx hx=>by
 have:=h x hx;have:=bounds_u8 this;omega
end Go.Eng
namespace Go.Eng
open Go
section
variable {P:Program} {n:Nd} {B:Nat} {w0:World} {L:Env} {R:List Row} {ty:TypeId}
theorem DD (g j:Nat):(⟨g,0,none⟩:Addr).add j=⟨g,j,none⟩:=by unfold Addr.add;split<;>simp_all
theorem Hp.cellAt {w:World} (h:Hp B w0 w R) (i:Nat) {r:Row} {g j:Nat} {v:Value} (hi:R[i]? =some r) (hA:r.A=some ⟨g,0,none⟩) (hv:r.xs[j]? =some v):w.cell? ⟨g,j,none⟩=some v:=by
 obtain⟨a,ha,hc⟩:=(Row.rd (h.own r (gm hi))).cell hv;rw[hA] at ha;simp only[pat,ky,mg] at ha;rw[DD] at ha;rw[ha];exact hc
theorem Hp.openAt {w:World} (h:Hp B w0 w R) (i:Nat) {r:Row} {g:Nat} (j:Nat) (hi:R[i]? =some r) (ov:r.ro=false) (hA:r.A=some ⟨g,0,none⟩):w.frozen? ⟨g,j,none⟩=false:=by
 have hw:=Row.lies_w (h.own r (gm hi)) ov;rcases hw.2 with⟨hn,_⟩|⟨g',cap,cur,hs,hb,hg,_⟩
 ·rw[hA] at hn;cases hn
 ·rw [hA] at hs;simp only[kv,mg,Av,Au,Ak] at hs;obtain⟨rfl,rfl⟩:=hs;unfold World.frozen?;simp[hg]
theorem XA {α:Type} (l:List α) (j k:Nat) (v:α):(l.set j v).take k=(l.take k).set j v:=by
 apply ul;intro i;simp only[ny,xq,ax];by_cases h1:i<k
 ·by_cases h2:j=i
  ·subst h2;have e:(j<min k l.length)=(j<l.length):=by rw[eq_iff_iff];omega
   simp[h1,e]
  ·simp[h1,h2]
 ·by_cases h2:j=i
  ·subst h2;have e: ¬j<min k l.length:=G
   simp[h1,e]
  ·simp[h1,h2]
theorem Hp.set1 {w:World} (h:Hp B w0 w R) (i:Nat) {r:Row} {g j:Nat} {v:Value} (hi:R[i]? =some r) (ov:r.ro=false) (hA:r.A=some ⟨g,0,none⟩):Hp B w0 (w.setCell ⟨g,j,none⟩ v) (R.set i {r with xs:=r.xs.set j v}):=by
 have hw:=Row.lies_w (h.own r (gm hi)) ov;rcases hw.2 with⟨hn,_⟩|⟨g',cap,cur,hs,hb,hg,hnc,sn,kp,ht⟩
 ·rw[hA] at hn;cases hn
 ·rw [hA] at hs;simp only[kv,mg,Av,Au,Ak] at hs;obtain⟨rfl,rfl⟩:=hs;have bc:g<w.heap.size:=(fo.1 hg).1;have Px:w.heap[g]= .cells cur r.e (0,0):=(fo.1 hg).2
  have Ur:(w.setCell ⟨g,j,none⟩ v).heap[g]? =some (.cells (cur.setIfInBounds j v) r.e (0,0)):=by
   simp[World.setCell,bc,Array.getElem_modify,Px]
  refine h.upd hi (row:=some g) ⟨rfl,rfl,rfl,by simp[World.setCell],λk _ hk=> ?_⟩ (di _) (λk hk=> ?_) ?_ (λa' nc=> .inl ⟨a',nc,rfl⟩)
  ·have: ¬g=k:=λe=>hk (by simp[e]);simp[World.setCell,vg,this]
  ·obtain rfl:=jc hk;exact⟨_,hA,rfl⟩
  ·unfold Row.lies;simp only[ov];refine⟨by simpa using hw.1, .inr ⟨g,r.c,_,by rw[hA],hb,Ur,hnc,sn,by simpa using kp,?_⟩⟩;rw[Array.toList_setIfInBounds,XA,ht]
theorem aKj {f:FuncId} {u6:List Operand} {ts:Array TypeId} {vs:List Value} {v:Value} {R1:List Row} (ha:evs L u6=some vs) (hc: ∀w,Hp B w0 w R-> ∃w',(callFunc f vs.toArray).run P w= .ok (.value v) w'/\Hp B w0 w' R1):
  Ac P n B w0 (.call {callee:= .value (.func f),args:=u6.toArray,argTypes:=ts}) ty L R (λu R'=>u=v/\R'=R1):=by
 intro a w o K Q ho _ hs hp hk;have e1:=hs.evs ha;obtain⟨w',hr,ci⟩:=hc w hp;have hf:ev L (.func f)=some (.func (.func f) #[] #[]):=rfl;unfold Oper.wp;simp only[execOp,ho,resolve,hs.ev hf,Deferred.ofValue,invoke,kg,ni,jv,uh,e1,ui,je,jk,hr,Oper.upon];exact hk _ _ _ ci ⟨rfl,rfl⟩
end
def bv (x:BitVec 32):Int:=(x.toNat:Int)
theorem zO (m:Nat) (h:m<4294967296):IntKind.u32.wrap (m:Int)=m:=by
 rw[IntKind.wrap_u32];omega
theorem qK (x:BitVec 32):BitVec.ofInt 32 (bv x)=x:=by
 apply BitVec.eq_of_toNat_eq;unfold bv;have:=x.isLt;simp
theorem aXq {x y:BitVec 32} (h:bv x=bv y):x=y:=by
 have:=bq (BitVec.ofInt 32) h;rwa[qK,qK] at this
theorem aYu (p:Int):IntKind.u32.wrap p=bv (BitVec.ofInt 32 p):=by
 rw[IntKind.wrap_u32];unfold bv;rw[zh];omega
section
variable {P:Program} {n:Nd} {B:Nat} {w0:World} {L:Env} {R:List Row} {ty:TypeId}
theorem aZs (p q:BitVec 32) (w:World):(Op.intBits .and .u32 (bv p) (bv q)).run P w= .ok (.int .u32 (bv (p &&& q))) w:=by
 show Result.ok (Value.int .u32 (IntKind.u32.wrap ((BitVec.ofInt 32 (bv p) &&& BitVec.ofInt 32 (bv q)).toNat:Int))) w=_;rw[qK,qK,zO _ (BitVec.isLt _)];rfl
theorem aHw (p q:BitVec 32) (w:World):(Op.intBits .xor .u32 (bv p) (bv q)).run P w= .ok (.int .u32 (bv (p^^^q))) w:=by
 show Result.ok (Value.int .u32 (IntKind.u32.wrap ((BitVec.ofInt 32 (bv p)^^^BitVec.ofInt 32 (bv q)).toNat:Int))) w=_;rw[qK,qK,zO _ (BitVec.isLt _)];rfl
theorem aRl (p q:Int) (w:World):(Op.intBits .xor .u8 p q).run P w= .ok (.int .u8 ((BitVec.ofInt 8 p^^^BitVec.ofInt 8 q).toNat:Int)) w:=by
 show Result.ok (Value.int .u8 (IntKind.u8.wrap ((BitVec.ofInt 8 p^^^BitVec.ofInt 8 q).toNat:Int))) w=_
 have e3:IntKind.u8.wrap ((BitVec.ofInt 8 p^^^BitVec.ofInt 8 q).toNat:Int)=((BitVec.ofInt 8 p^^^BitVec.ofInt 8 q).toNat:Int):=by
  rw[Ck];have:=(BitVec.ofInt 8 p^^^BitVec.ofInt 8 q).isLt;omega
 rw[e3]
theorem aZp (p:BitVec 32) (j:IntKind) (k:Nat) (hk:k<=32) (w:World):(Op.shift .shr .u32 (bv p) j (k:Int)).run P w= .ok (.int .u32 (bv (p>>>k))) w:=by
 have hn: ¬((k:Int)<0):=G
 have hm:min (k:Int).toNat (IntKind.bits .u32)=k:=by
  have:IntKind.bits .u32=32:=rfl;omega
 have he:Int.fdiv (bv p) (2^k)=bv (p>>>k):=by
  unfold bv;rw[BitVec.toNat_ushiftRight,Nat.shiftRight_eq_div_pow,Bi _ (by exact vk G)];simp
 unfold Op.shift;rw[bu hn];simp only[hm,ni];rw[he]
theorem aCt {x y:Operand} {t u:TypeId} {p q:BitVec 32} (hx:ev L x=some (.int .u32 (bv p))) (hy:ev L y=some (.int .u32 (bv q))):Yl P n B w0 (.binOp .and t x y u) ty L R (.int .u32 (bv (p &&& q))):=by
 intro a w o ho _ hs _;simp[execOp,ho,binOp,eqGuard,hs.ev hx,hs.ev hy,aZs]
theorem DL {x y:Operand} {t u:TypeId} {p q:BitVec 32} (hx:ev L x=some (.int .u32 (bv p))) (hy:ev L y=some (.int .u32 (bv q))):Yl P n B w0 (.binOp .xor t x y u) ty L R (.int .u32 (bv (p^^^q))):=by
 intro a w o ho _ hs _;simp[execOp,ho,binOp,eqGuard,hs.ev hx,hs.ev hy,aHw]
theorem JC {x y:Operand} {t u:TypeId} {p:BitVec 32} {j:IntKind} {k:Nat} (hx:ev L x=some (.int .u32 (bv p))) (hy:ev L y=some (.int j (k:Int))) (hk:Nat.ble k 32=true):Yl P n B w0 (.binOp .shr t x y u) ty L R (.int .u32 (bv (p>>>k))):=by
 intro a w o ho _ hs _;simp[execOp,ho,binOp,eqGuard,hs.ev hx,hs.ev hy,aZp p j k (au hk)]
theorem bFl {x:Operand} {t:TypeId} {p:BitVec 32} (hx:ev L x=some (.int .u32 (bv p))):Yl P n B w0 (.unOp .xor t x) ty L R (.int .u32 (bv (4294967295#32^^^p))):=by
 intro a w o ho _ hs _;have e2:(if IntKind.u32.signed=true then(-1:Int) else IntKind.u32.max)=bv 4294967295#32:=rfl;simp[execOp,ho,hs.ev hx,Op.unary,e2,aHw]
theorem SY {x:Operand} {s d:TypeId} {j:IntKind} {p:Int} {td:TypeDesc} (ef:P.underlying s=some td) (hd:P.underlying d=some (.int .u32)) (hx:ev L x=some (.int j p)):Yl P n B w0 (.convert s d x) ty L R (.int .u32 (bv (BitVec.ofInt 32 p))):=by
 have:=mI (P:=P) (n:=n) (B:=B) (w0:=w0) (R:=R) (ty:=ty) ef hd hx;rwa[aYu] at this
theorem bDo {x y:Operand} {t u:TypeId} {p q:BitVec 32} (hx:ev L x=some (.int .u32 (bv p))) (hy:ev L y=some (.int .u32 (bv q))):Yl P n B w0 (.binOp .eql t x y u) ty L R (.bool (decide (p=q))):=by
 have:=aX (P:=P) (n:=n) (B:=B) (w0:=w0) (R:=R) (ty:=ty) (t:=t) (u:=u) hx hy
 have e:(decide (bv p=bv q))=decide (p=q):=by
  rw[yg];exact⟨aXq,λh=>by rw[h]⟩
 rwa[e] at this
theorem aQb {x y:Operand} {t u:TypeId} {p q:BitVec 32} (hx:ev L x=some (.int .u32 (bv p))) (hy:ev L y=some (.int .u32 (bv q))):Yl P n B w0 (.binOp .neq t x y u) ty L R (.bool (decide (p≠q))):=by
 have:=gU (P:=P) (n:=n) (B:=B) (w0:=w0) (R:=R) (ty:=ty) (t:=t) (u:=u) hx hy
 have e:(decide (bv p≠bv q))=decide (p≠q):=by
  rw[yg];exact⟨λh e=>h (by rw[e]),λh e=>h (aXq e)⟩
 rwa[e] at this
theorem bFi {x y:Operand} {t u:TypeId} {p q:Int} (hx:ev L x=some (.int .u8 p)) (hy:ev L y=some (.int .u8 q)):Yl P n B w0 (.binOp .xor t x y u) ty L R (.int .u8 ((BitVec.ofInt 8 p^^^BitVec.ofInt 8 q).toNat:Int)):=by
 intro a w o ho _ hs _;simp only[execOp,ho,binOp,eqGuard,hs.ev hx,hs.ev hy];simp[aRl]
theorem TM (k:Nat) (t d:TypeId) (p:Option Addr) (ht:P.underlying t=some (.pointer d)) (w:World):(Op.equalIn (k+1) t (.pointer p) (.pointer none)).run P w= .ok p.isNone w:=by
 cases p<;>simp[Op.equalIn,mh ht,samePointer]
theorem KA (t d:TypeId) (p:Option Addr) (ht:P.underlying t=some (.pointer d)) (w:World):(Op.equal t (.pointer p) (.pointer none)).run P w= .ok p.isNone w:=by
 exact TM 9999 t d p ht w
theorem aB {x:Operand} {t tf:TypeId} {fs:Array Field} {k st g j off m:Nat} (hu:P.underlying t=some (.struct fs)) (hf:(fs[k]?).map (λf=>(f.offset,f.type))=some (off,tf)) (gv:(P.info? tf).map (·.size)=some st) (Jj:Nat.blt 0 st=true) (hx:ev L x=some (.pointer (some ⟨g,j,none⟩))) (hm:j+off=m):
  Yl P n B w0 (.fieldAddr t x k) ty L R (.pointer (some ⟨g,m,none⟩)):=by
 obtain⟨f,Sc,he⟩:=il.1 hf;simp only[yl] at he;obtain⟨rfl,rfl⟩:=he;have:=uW (P:=P) (n:=n) (B:=B) (w0:=w0) (R:=R) (ty:=ty) hu Sc gv Jj hx
 have e:(⟨g,j,none⟩:Addr).add f.offset=⟨g,m,none⟩:=by
  rw[<-hm];unfold Addr.add;split<;>simp_all
 rwa[e] at this
theorem PE {x ix:Operand} {t e:TypeId} {k:IntKind} {g m N:Nat} {i:Int} {r:Row} (q:Nat) (hq:R[q]? =some r) (hA:r.A=some ⟨g,0,none⟩) (ht:P.underlying t=some (.array N e)) (hi:(P.info? e).map (·.size)=some 1) (hx:ev L x=some (.pointer (some ⟨g,m,none⟩))) (rr:ev L ix=some (.int k i)) (bc:m<r.xs.length) (h0:0<=i) (h1:i<N):
  Yl P n B w0 (.indexAddr t x ix) ty L R (.pointer (some ⟨g,m+i.toNat,none⟩)):=by
 have Lm:(some ⟨g,m,none⟩:Option Addr)=pat (some ⟨g,0,none⟩) m:=by
  simp only[pat,ky,DD]
 have:=yJ (P:=P) (n:=n) (B:=B) (w0:=w0) (ty:=ty) ht hi hx Lm rr (hA▸rdR q hq) bc h0 h1;rw[qw] at this;simpa only[pat,ky,DD] using this
theorem bFm {x:Operand} {t:TypeId} {d:TypeDesc} {g j:Nat} {v:Value} {r:Row} (q:Nat) (hq:R[q]? =some r) (hA:r.A=some ⟨g,0,none⟩) (hu:P.underlying t=some d) (hd:DC d=false) (hx:ev L x=some (.pointer (some ⟨g,j,none⟩))) (hv:r.xs[j]? =some v):
  Yl P n B w0 (.load t x) ty L R v:=by
 have Lm:(some ⟨g,j,none⟩:Option Addr)=pat (some ⟨g,0,none⟩) j:=by
  simp only[pat,ky,DD]
 exact qV hu hd hx Lm (hA▸rdR q hq) hv
theorem bC {x y:Operand} {t:TypeId} {j:Nat} {r:Row} {v:Value} {g:Nat} (q:Nat) (hq:R[q]? =some r) (ov:r.ro=false) (hA:r.A=some ⟨g,0,none⟩) (gv:(P.info? t).map (·.size)=some 1) (hx:ev L x=some (.pointer (some ⟨g,j,none⟩))) (hy:ev L y=some v) (hv:v.cells.toList=[v]) (h1:v.oneCell'=true) (hj:j<r.xs.length):
  Ac P n B w0 (.store t x y) ty L R (λ_ R'=>R'=R.set q {r with xs:=r.xs.set j v}):=
 VU q hq ov hA gv hx (by simp only[pat,hA,ky,DD]) hy hv h1 hj
theorem aQe {t:TypeId} {v:Value} (h: ∀w,(Instr.build t #[]).run P w= .ok v w):Yl P n B w0 (.build t #[]) ty L R v:=by
 intro a w o ho _ hs _;simp[execOp,ho,h]
theorem KX {r0 r1:Row}: ∀ {R:List Row} {i:Nat},R[i]? =some r0->(r1::R.eraseIdx i).Perm (R.set i r1)
 |[],i,h=>by simp at h
 |q::R,0,_=> .refl _
 |q::R,i+1,h=>by
  have ih:(r1::R.eraseIdx i).Perm (R.set i r1):=KX (by simpa using h);exact(List.Perm.swap q r1 _).trans (ih.cons q)
theorem Ct.at {f:FuncId} {args:Array Value} {r0 r1:Row} {V:Value} (i:Nat) (hi:R[i]? =some r0) (h:Ct P f args B w0 (r0::R.eraseIdx i) (λv R'=>v=V/\R'=r1::R.eraseIdx i)):Ct P f args B w0 R (λv R'=>v=V/\R'=R.set i r1):=by
 intro w hw
 have Mx:Hp B w0 w (r0::R.eraseIdx i):=by
  have hp:=KX (r1:=r0) hi;have bc:i<R.length:=(dw.1 hi).1
  have e:R.set i r0=R:=by
   rw[<-(dw.1 hi).2];exact List.set_getElem_self bc
  rw[e] at hp;exact hw.perm hp.symm
 refine(h w Mx).mono ?_;rintro e w' ⟨v,R',rfl,hh,rfl,rfl⟩;exact⟨_,_,rfl,hh.perm (KX hi),rfl,rfl⟩
theorem dP {x y:Operand} {t u d:TypeId} {p:Option Addr} (ht:P.underlying t=some (.pointer d)) (hx:ev L x=some (.pointer p)) (hy:ev L y=some (.pointer none)):Yl P n B w0 (.binOp .eql t x y u) ty L R (.bool p.isNone):=by
 intro a w o ho _ hs _;simp[execOp,ho,binOp,eqGuard,hs.ev hx,hs.ev hy,KA t d p ht]
theorem GZ {x y:Operand} {t u d:TypeId} {p:Option Addr} (ht:P.underlying t=some (.pointer d)) (hx:ev L x=some (.pointer p)) (hy:ev L y=some (.pointer none)):Yl P n B w0 (.binOp .neq t x y u) ty L R (.bool (!p.isNone)):=by
 intro a w o ho _ hs _;simp[execOp,ho,binOp,eqGuard,hs.ev hx,hs.ev hy,KA t d p ht]
end
end Go.Eng
namespace Go.Eng
open Go Go.RowKit
def rdl (ls:List (List Int)) (i:Int):List Int:=ls.getD i.toNat []
theorem aSq {ls:List (List Int)} {i:Int} (h0:0<=i) (h:i<ls.length):ls.drop i.toNat=rdl ls i::ls.drop (i+1).toNat:=by
 have hl:i.toNat<ls.length:=G
 have e:(i+1).toNat=i.toNat+1:=G
 rw[e,ku hl];simp[rdl,ai,av hl]
theorem bAc {ls:List (List Int)} {i:Int} (h0:0<=i) (h:i<ls.length):rdl ls i∈ls:=by
 have hl:i.toNat<ls.length:=G
 simp[rdl,ai,av hl]
def SlW (k:IntKind) (w:World) (vals:List Value) (ls:List (List Int)):Prop:=vals.length=ls.length/\ ∀j:Nat,j<ls.length-> ∃(A:Option Addr) (c:Nat),vals[j]? =some (Value.slice A (ls.getD j []).length c)/\Rd w A (ls.getD j []).length c 1 (ints k (ls.getD j []))/\(∀x∈ls.getD j [],(Lit.int k x).wf=true)/\(ls.getD j []).length<=140737488355327
theorem SlW.at {k:IntKind} {w:World} {vals:List Value} {ls:List (List Int)} (h:SlW k w vals ls) {i:Int} (h0:0<=i) (h1:i<ls.length): ∃(A:Option Addr) (c:Nat),vals[i.toNat]? =some (Value.slice A (rdl ls i).length c)/\Rd w A (rdl ls i).length c 1 (ints k (rdl ls i))/\(∀x∈rdl ls i,(Lit.int k x).wf=true)/\(rdl ls i).length<=140737488355327:=
 h.2 i.toNat G
theorem SlW.c {k:IntKind} {w w':World} {R:List Row} {vals:List Value} {ls:List (List Int)} (h:SlW k w vals ls) (hw:Hp w.heap.size w w' R):SlW k w' vals ls:=
 ⟨h.1,λj hj=>by
  obtain⟨A,c,h1,h2,h3⟩:=h.2 j hj
  exact⟨A,c,h1,h2.below hw.below,h3⟩⟩
theorem jG (k:IntKind) (w:World):SlW k w [] []:=⟨rfl,λj hj=>by simp at hj⟩
section
variable {P:Program} {n:Nd} {B:Nat} {w0:World} {L:Env} {R:List Row} {ty:TypeId}
theorem gP {x y:Operand} {t e sz:Nat} {v:Value} {xs vs:List Value} {g:Nat} (i:Nat) (hi:R[i]? =some ⟨e,sz,some ⟨g,0,none⟩,1,1,xs,false⟩) (gv:(P.info? t).map (·.size)=some sz) (hx:ev L x=some (.pointer (some ⟨g,0,none⟩))) (hy:ev L y=some v) (hv:v.cells.toList=vs) (h1: ∀v∈vs,v.oneCell'=true) (hl:vs.length=sz):
  Ac P n B w0 (.store t x y) ty L R (λ_ R'=>R'=R.set i ⟨e,sz,some ⟨g,0,none⟩,1,1,vs,false⟩):=by
 intro a w o K Q ho i7 hs hp hk
 have Ly:xs.length=sz:=by
  have:=(Row.rd (hp.own _ (gm hi))).len;simpa using this
 have:=NS (P:=P) (n:=n) (B:=B) (w0:=w0) (ty:=ty) (j:=0) i hi rfl rfl (vs:=vs) (by rw[gv,hl]) hx (by simp[pat,Addr.add]) hy hv h1 (by simp only;omega);simp only[xw,je,ng,hl,<-Ly,Ib,jk] at this;rw[Ly] at this;exact this a w o K Q ho i7 hs hp hk
end
def prs (l:List (Int × Int)):List Value:=l.flatMap λp=>[.int .i64 p.1, .int .i64 p.2]
def rdp (l:List (Int × Int)) (i:Int):Int × Int:=l.getD i.toNat (0,0)
theorem iX: ∀l:List (Int × Int),(prs l).length=l.length*2
 |[]=>rfl
 |p::l=>by
  have:=iX l;unfold prs at*;rw[Dg,ah,this];simp;omega
theorem KT (l m:List (Int × Int)):prs (l++m)=prs l++prs m:=by simp[prs]
theorem KS: ∀(l:List (Int × Int)) (i:Nat),(prs l).drop (i*2)=prs (l.drop i)
 |l,0=>cD
 |[],i+1=>by simp[prs]
 |p::l,i+1=>by
  have:=KS l i;have e:(i+1)*2=i*2+1+1:=G
  rw[e];show((Value.int .i64 p.1::Value.int .i64 p.2::prs l).drop (i*2+1+1))=_;rw[Ca,Ca,this];rfl
theorem aSp {l:List (Int × Int)} {i:Int} (h0:0<=i) (h:i<l.length):l.drop i.toNat=rdp l i::l.drop (i+1).toNat:=by
 have hl:i.toNat<l.length:=G
 have e:(i+1).toNat=i.toNat+1:=G
 rw[e,ku hl];simp[rdp,ai,av hl]
theorem bGh {l:List (Int × Int)} {i:Int} (h0:0<=i) (h:i<l.length):((prs l).drop (i.toNat*2)).take 2=[.int .i64 (rdp l i).1, .int .i64 (rdp l i).2]:=by
 rw[KS,aSp h0 h];rfl
theorem bAn (l:List (Int × Int)): ∀v∈prs l,v.oneCell'=true:=by
 intro v hv;unfold prs at hv;obtain⟨p,_,hp⟩:=Ig.1 hv;simp at hp;rcases hp with rfl|rfl<;>rfl
section
variable {P:Program} {n:Nd} {B:Nat} {w0:World} {L:Env} {R:List Row} {ty:TypeId}
theorem JD {x:Operand} {t:TypeId} {d:TypeDesc} {A:Option Addr} {m c:Nat} {l:List (Int × Int)} {i:Int} (hu:P.underlying t=some d) (hd:DC d=true) (gv:(P.info? t).map (·.size)=some 2) (hx:ev L x=some (.pointer (pat A (i.toNat*2)))) (hr:RdC B w0 R A m c 2 (prs l)) (h0:0<=i:=by omega) (h1:i<l.length:=by omega):
  Yl P n B w0 (.load t x) ty L R (.agg #[.int .i64 (rdp l i).1, .int .i64 (rdp l i).2]):=by
 have:=aHh (P:=P) (n:=n) (B:=B) (w0:=w0) (R:=R) (ty:=ty) hu hd gv hx rfl hr (by rw[iX];omega) G;rwa[bGh h0 h1] at this
theorem iR {s x:Operand} {t e:TypeId} {z:Value} {bytes m p c c2:Nat} {A A2:Option Addr} {l news:List (Int × Int)} (i:Nat) (hi:R[i]? =some ⟨e,2,A,p,c,prs l,false⟩) (ht:P.underlying t=some (.slice e)) (db:(P.info? e).map (λi=>(i.zero,i.size,i.bytes))=some (some z,2,bytes)) (hz:z.cells.size=2) (m8:Nat.blt 0 bytes=true)
  (hs:ev L s=some (.slice A p c)) (hx:ev L x=some (.slice A2 m c2)) (ij:RdC B w0 R A2 m c2 2 (prs news)) (km:(p+m)*bytes<=140737488355328):
  Ac P n B w0 (.call {callee:= .builtin .append,args:= #[s,x],argTypes:= #[t,t]}) ty L R (λv R'=> ∃A' c',v= .slice A' (p+m) c'/\R'=R.set i ⟨e,2,A',p+m,c',prs (l++news),false⟩):=by
 have:=oU (P:=P) (n:=n) (B:=B) (w0:=w0) (ty:=ty) i hi rfl ht db hz rfl m8 hs hx ij (bAn news) km;simp only[<-KT] at this;exact this
theorem NT {t e:TypeId} {x:Operand} {a b:Int} (ht:P.underlying t=some (.slice e)) (db:(P.info? e).map (λi=>(i.zero,i.size))=some (some (.agg #[.int .i64 0, .int .i64 0]),2)) (hx:ev L x=some (.agg #[.int .i64 a, .int .i64 b])):
  Ac P n B w0 (.buildSlice t 1 #[(0,x)]) ty L R (λv R'=> ∃g,v= .slice (some ⟨g,0,none⟩) 1 1/\R'=⟨e,2,some ⟨g,0,none⟩,1,1,prs [(a,b)],false⟩::R):=by
 have hv:evp L [(0,x)]=some [(0, .agg #[.int .i64 a, .int .i64 b])]:=by simp[evp,hx]
 exact pO (P:=P) (n:=n) (B:=B) (w0:=w0) (L:=L) (R:=R) (ty:=ty) (len:=1) (ps:=[(0,x)]) (cells:= #[.int .i64 a, .int .i64 b]) ht db hv cC cC cA (by rfl)
theorem aSy {w:World} {m c:Nat} {l:List (Int × Int)} (h:Rd w none m c 2 (prs l)):l=[]:=by
 cases l with
 |nil=>rfl
 |cons p l=>
  obtain⟨a,ha,_⟩:=h.at_ 0 (.int .i64 p.1) rfl;cases ha
theorem Hp.nilP {w:World} (h:Hp B w0 w R) (e:TypeId):Hp B w0 w (⟨e,2,none,0,0,prs [],false⟩::R):=h.nil e 2
theorem aK {x:Operand} {t:TypeId} {d:TypeDesc} {g j m c sz:Nat} {xs:List Value} {v:Value} (hr:RdC B w0 R (some ⟨g,0,none⟩) m c sz xs) (hu:P.underlying t=some d) (hd:DC d=false) (hx:ev L x=some (.pointer (some ⟨g,j,none⟩))) (hv:xs[j]? =some v):Yl P n B w0 (.load t x) ty L R v:=
 qV hu hd hx (by simp only[pat,ky,DD]) hr hv
theorem cK {x:Operand} {t:TypeId} {d:TypeDesc} {g j st m c sz:Nat} {xs vs:List Value} (hr:RdC B w0 R (some ⟨g,0,none⟩) m c sz xs) (hu:P.underlying t=some d) (hd:DC d=true) (gv:(P.info? t).map (·.size)=some st) (hx:ev L x=some (.pointer (some ⟨g,j,none⟩))) (hv:(xs.drop j).take st=vs) (hj:j+st<=xs.length) (Jj:Nat.blt 0 st=true):Yl P n B w0 (.load t x) ty L R (.agg vs.toArray):=by
 have:=aHh (P:=P) (n:=n) (B:=B) (w0:=w0) (ty:=ty) hu hd gv hx (by simp only[pat,ky,DD]) hr hj (au Jj);rwa[hv] at this
theorem dQ {x ix:Operand} {t e:TypeId} {k:IntKind} {g j q N m c sz:Nat} {i:Int} {xs:List Value} (hr:RdC B w0 R (some ⟨g,0,none⟩) m c sz xs) (ht:P.underlying t=some (.array N e)) (hi:(P.info? e).map (·.size)=some 1) (hx:ev L x=some (.pointer (some ⟨g,j,none⟩))) (rr:ev L ix=some (.int k i)) (bc:j<xs.length) (h0:0<=i) (h1:i<N) (hq:j+i.toNat=q):
  Yl P n B w0 (.indexAddr t x ix) ty L R (.pointer (some ⟨g,q,none⟩)):=by
 subst hq
 have Lm:(some ⟨g,j,none⟩:Option Addr)=pat (some ⟨g,0,none⟩) j:=by
  simp only[pat,ky,DD]
 have:=yJ (P:=P) (n:=n) (B:=B) (w0:=w0) (ty:=ty) ht hi hx Lm rr hr bc h0 h1;rw[qw] at this;simpa only[pat,ky,DD] using this
theorem dZ {t:TypeId} {ps:List (Nat × Operand)} {vs:List (Nat × Value)} {v:Value} (hv:evp L ps=some vs) (h: ∀w,(Instr.build t vs.toArray).run P w= .ok v w):Yl P n B w0 (.build t ps.toArray) ty L R v:=by
 intro a w o ho _ hs _;have Nz:=hs.evp hv;simp[execOp,ho,Nz,h]
theorem YR (l:List (Int × Int)) (i:Nat):(prs l).take (i*2)=prs (l.take i):=by
 have h:prs l=prs (l.take i)++prs (l.drop i):=by rw[<-KT,gu]
 have hl:=iX (l.take i);rw[ax] at hl;rw[h];by_cases hi:i<=l.length
 ·rw[Eo G,bn G]
 ·rw[oq G,show prs []=[] from rfl,jk,bn G]
theorem RdC.toP {A:Option Addr} {m h c:Nat} {l:List (Int × Int)} (hr:RdC B w0 R A m c 2 (prs l)) (h2:h<=m):RdC B w0 R A h c 2 (prs (l.take h)):=by
 have:=hr.to h2;rwa[YR] at this
theorem RdC.fromP {A:Option Addr} {m c h:Nat} {l:List (Int × Int)} (hr:RdC B w0 R A m c 2 (prs l)) (h1:h<=m):RdC B w0 R (jA A h c 2) (m-h) (c-h) 2 (prs (l.drop h)):=by
 intro w hw;have hl:=(hr w hw).len;have:=hr.cut h1 (di m) w hw;rw[KS,bn (by rw[iX,ay];rw[iX] at hl;omega)] at this;exact this
theorem XQ (k:Nat) (t e:TypeId) (A:Option Addr) (m c:Nat) (ht:P.underlying t=some (.slice e)) (w:World):(Op.equalIn (k+1) t (.slice A m c) (.slice none 0 0)).run P w= .ok A.isNone w:=by
 cases A<;>simp[Op.equalIn,mh ht]
theorem aLm (t e:TypeId) (A:Option Addr) (m c:Nat) (ht:P.underlying t=some (.slice e)) (w:World):(Op.equal t (.slice A m c) (.slice none 0 0)).run P w= .ok A.isNone w:=XQ 9999 t e A m c ht w
theorem aHg {x y:Operand} {t u e:TypeId} {A:Option Addr} {m c:Nat} (ht:P.underlying t=some (.slice e)) (hx:ev L x=some (.slice A m c)) (hy:ev L y=some (.slice none 0 0)):Yl P n B w0 (.binOp .eql t x y u) ty L R (.bool A.isNone):=by
 intro a w o ho _ hs _;simp[execOp,ho,binOp,eqGuard,hs.ev hx,hs.ev hy,aLm t e A m c ht]
theorem VW {t e:TypeId} (ht:P.underlying t=some (.slice e)) (db:(P.info? e).map (λi=>(i.zero,i.size))=some (some (.agg #[.int .i64 0, .int .i64 0]),2)):
  Ac P n B w0 (.buildSlice t 0 #[]) ty L R (λv R'=> ∃g,v= .slice (some ⟨g,0,none⟩) 0 0/\R'=⟨e,2,some ⟨g,0,none⟩,0,0,prs [],false⟩::R):=
 pO (P:=P) (n:=n) (B:=B) (w0:=w0) (L:=L) (R:=R) (ty:=ty) (len:=0) (ps:=[]) (vs:=[]) (cells:= #[]) ht db rfl cC cC cA (by rfl)
theorem Hp.selR {w:World} {F F':List Row} (h:Hp B w0 w (F++R)) (is:List Nat) (hn:is.Nodup) (hR:is.map (λi=>F[i]?)=F'.map some):Hp B w0 w (F'++R):=by
 have hp:=kz.1 h.apart;have hF:Hp B w0 w F:=⟨h.below,h.base,λr hr=>h.own r (gp.2 (.inl hr)),hp.1,h.late⟩;have Ug:=hF.sel is hn hR
 have mem: ∀q∈F',q∈F:=by
  intro q hq;have h1:some q∈F'.map some:=iy.2 ⟨q,hq,rfl⟩;rw[<-hR] at h1;obtain⟨i,_,hi⟩:=iy.1 h1;exact gm hi
 refine⟨h.below,h.base,λr hr=> ?_,kz.2 ⟨Ug.apart,hp.2.1,λq hq r hr=>hp.2.2 q (mem q hq) r hr⟩,h.late⟩;rcases gp.1 hr with h1|h1
 ·exact h.own r (gp.2 (.inl (mem r h1)))
 ·exact h.own r (gp.2 (.inr h1))
end
end Go.Eng
namespace Go.Eng
open Go Go.RowKit Go.Proofs Go.Sort
theorem IQ: ∀(l:List (Int × Int)) (t:Nat),t<l.length*2->(prs l)[t]? =some (if t%2=0 then .int .i64 (l.getD (t/2) (0,0)).1 else .int .i64 (l.getD (t/2) (0,0)).2)
 |[],t,h=>by simp at h
 |p::l,0,_=>rfl
 |p::l,1,_=>rfl
 |p::l,t+2,h=>by
  have ih:=IQ l t (by simp only[dh] at h;omega);have e1:(t+2)%2=t%2:=G
  have e2:(t+2)/2=t/2+1:=G
  rw[e1,e2];show(Value.int .i64 p.1::Value.int .i64 p.2::prs l)[t+2]? =_;rw[Cw,Cw,ih];rfl
def encP {l:List (Int × Int)} (x: {p:Int × Int//p∈l}):List Value:=[.int .i64 x.1.1, .int .i64 x.1.2]
theorem RJ {l:List (Int × Int)} [Inhabited {p:Int × Int//p∈l}] (d:Array {p:Int × Int//p∈l}):(flatK encP 2 d).toList=prs (d.toList.map Subtype.val):=by
 apply ul;intro t;have hs:(flatK encP 2 d).size=d.size*2:=size_flatK _ _ _;by_cases h:t<d.size*2
 ·rw [IQ _ t (by simpa using h),rf];have h2:t/2<d.size:=G
  have hg:(flatK encP 2 d)[t]? =some ((flatK encP 2 d)[t]!):=by
   rw[qd (by rw[hs];exact h),um _ t (by rw[hs];exact h)]
  rw[hg,get_flatK encP 2 d t h];have e:d[t/2]! =d[t/2]:=um d _ h2
  have e3:(d.toList.map Subtype.val).getD (t/2) (0,0)=d[t/2].1:=by
   simp[ai,h2]
  rw[e,e3];rcases Nat.mod_two_eq_zero_or_one t with hm|hm
  ·rw[hm];rfl
  ·rw[hm];rfl
 ·rw[mf (by rw[jy,hs];omega),mf (by rw[iX];simp;omega)]
end Go.Eng
namespace Go.Pure
open Go Go.Eng
def orL:List Int->Int
 |[]=>0
 |a::l=>if a≠0 then a else orL l
theorem bGm {l:List Int} {k:Int} (h0:0<=k) (h:k<l.length) (hz:rd l k=0):orL (l.drop k.toNat)=orL (l.drop (k+1).toNat):=by
 rw[iT h0 h,orL,bu G]
theorem bAs {l:List Int} {k:Int} (h0:0<=k) (h:k<l.length) (hz:rd l k≠0):orL (l.drop k.toNat)=rd l k:=by
 rw[iT h0 h,orL,df hz]
def ahd (ws:List (List Int)) (bs rs:List Int) (t:Int × Int) (h:Int):Int:=rd rs (rd bs t.1+(t.2+h)%((rdl ws t.1).length:Int))
def aDg (ws:List (List Int)) (bs rs:List Int) (h:Int) (t u:Int × Int):Int:=
 orL [iD (ahd ws bs rs t 0) (ahd ws bs rs u 0),iD (ahd ws bs rs t h) (ahd ws bs rs u h),iD t.1 u.1,iD t.2 u.2]
def TOk (ws:List (List Int)) (bs:List Int) (N:Nat) (t:Int × Int):Prop:=(0<=t.1/\t.1<ws.length/\t.1<bs.length)/\(0<=t.2/\t.2<(rdl ws t.1).length/\t.2<=1000000)/\0<(rdl ws t.1).length/\(0<=rd bs t.1/\rd bs t.1+(rdl ws t.1).length<=N)
def iC (bs:List Int) (t:Int × Int):Int:=rd bs t.1+t.2
def FY (ws:List (List Int)) (bs rs:List Int) (h:Int) (t u:Int × Int):Prop:=ahd ws bs rs t 0≠ahd ws bs rs u 0\/ahd ws bs rs t h≠ahd ws bs rs u h
instance (ws:List (List Int)) (bs rs:List Int) (h:Int) (t u:Int × Int):Decidable (FY ws bs rs h t u):=by unfold FY;infer_instance
def iI (ws:List (List Int)) (bs rs:List Int) (h:Int) (l:List (Int × Int)):Nat->Int
 |0=>0
 |i+1=>iI ws bs rs h l i+if FY ws bs rs h (rdp l i) (rdp l (i+1:Nat)) then 1 else 0
theorem xV {ws:List (List Int)} {bs rs:List Int} {h:Int} {l:List (Int × Int)} {i:Int} (hi:0<i):iI ws bs rs h l i.toNat=iI ws bs rs h l (i-1).toNat+if FY ws bs rs h (rdp l (i-1)) (rdp l i) then 1 else 0:=by
 obtain⟨k,rfl⟩: ∃k:Nat,i=(k:Int)+1:=⟨(i-1).toNat,G⟩;have e1:((k:Int)+1).toNat=k+1:=G
 have e2:((k:Int)+1-1)=k:=G
 rw[e1,e2,cu];rfl
theorem eQ {l:List Int} {i v:Int} (h0:0<=i) (h:i<l.length):rd (upd l i v) i=v:=by
 unfold rd upd;have hl:i.toNat<l.length:=G
 simp[ai,hl]
theorem fI {l:List Int} {i j v:Int} (h0:0<=i) (hj:0<=j) (dv:i≠j):rd (upd l i v) j=rd l j:=by
 unfold rd upd;have:i.toNat≠j.toNat:=G
 simp[ai,this]
theorem kN {l:List (Int × Int)} {i:Int} (h0:0<=i) (h:i<l.length):rdp l i∈l:=by
 have hl:i.toNat<l.length:=G
 simp[rdp,ai,av hl]
theorem bAb {l:List (Int × Int)} (hd:l.Nodup) {i j:Int} (h0:0<=i) (h:i<l.length) (g0:0<=j) (g:j<l.length) (e:rdp l i=rdp l j):i=j:=by
 have hi:i.toNat<l.length:=G
 have hj:j.toNat<l.length:=G
 simp only[rdp,ai,av hi,av hj,nz] at e;rcases jd i j with bc|bc|bc
 ·exact absurd e (dn.1 hd i.toNat j.toNat hi hj G)
 ·exact bc
 ·exact absurd e.symm (dn.1 hd j.toNat i.toNat hj hi G)
theorem yU {bs rk:List Int} {l:List (Int × Int)} {f:Nat->Int} {i n:Int} (hnd:l.Nodup) (Od: ∀t∈l,∀u∈l,iC bs t=iC bs u->t=u) (h0:0<=i) (hi:i<l.length) (ee: ∀t∈l,0<=iC bs t) (bc:iC bs (rdp l i)<rk.length)
  (j8: ∀j:Nat,j<i->rd rk (iC bs (rdp l j))=f j) (hn:n=f i.toNat): ∀j:Nat,(j:Int)<i+1->rd (upd rk (rd bs (rdp l i).1+(rdp l i).2) n) (iC bs (rdp l j))=f j:=by
 intro j hj;have Pr:=ee _ (kN h0 hi);by_cases vi:(j:Int)=i
 ·subst vi;rw[cu] at hn;rw[<-hn];exact eQ Pr bc
 ·have Lk:=ee _ (kN (show(0:Int)<=j by omega) (show(j:Int)<l.length by omega));have dv:iC bs (rdp l i)≠iC bs (rdp l j):=λe=>vi (bAb hnd G G h0 hi (Od _ (kN h0 hi) _ (kN G G) e).symm);have e:=fI (l:=rk) (v:=n) Pr Lk dv;rw[<-j8 j G];exact e
theorem CQ {a b:Int}:iD a b<0↔a<b:=by unfold iD;split<;>(try split)<;>omega
theorem zY (ws:List (List Int)) (bs rs:List Int) (h:Int) (t u:Int × Int):aDg ws bs rs h t u<0↔
  (ahd ws bs rs t 0<ahd ws bs rs u 0\/ahd ws bs rs t 0=ahd ws bs rs u 0/\(ahd ws bs rs t h<ahd ws bs rs u h\/ahd ws bs rs t h=ahd ws bs rs u h/\(t.1<u.1\/t.1=u.1/\t.2<u.2))):=by
 unfold aDg;simp only[orL];generalize ahd ws bs rs t 0=a;generalize ahd ws bs rs u 0=b;generalize ahd ws bs rs t h=c;generalize ahd ws bs rs u h=d;by_cases h1:a=b
 ·have e1:iD a b=0:=jW.2 h1;by_cases h2:c=d
  ·have e2:iD c d=0:=jW.2 h2;by_cases h3:t.1=u.1
   ·have e3:iD t.1 u.1=0:=jW.2 h3;by_cases h4:t.2=u.2
    ·have e4:iD t.2 u.2=0:=jW.2 h4;simp[e1,e2,e3,e4];omega
    ·have e4:iD t.2 u.2≠0:=λe=>h4 (jW.1 e);simp only[e1,e2,e3,ne_eq,not_true,Dr,xe,Fu,e4,CQ];omega
   ·have e3:iD t.1 u.1≠0:=λe=>h3 (jW.1 e);simp only[e1,e2,ne_eq,not_true,Dr,xe,Fu,e3,CQ];omega
  ·have e2:iD c d≠0:=λe=>h2 (jW.1 e);simp only[e1,ne_eq,not_true,Dr,xe,Fu,e2,CQ];omega
 ·have e1:iD a b≠0:=λe=>h1 (jW.1 e);simp only[ne_eq,e1,Dr,Fu,CQ];omega
theorem aQx (ws:List (List Int)) (bs rs:List Int) (h:Int):Go.Sort.SWO (Go.Proofs.ltOf (aDg ws bs rs h)):=by
 refine⟨λx=> ?_,λx y z h1 h2=> ?_,λx y z h1 h2=> ?_⟩
 ·simp only[Go.Proofs.ltOf,uo,zY];omega
 ·simp only[Go.Proofs.ltOf,zy,zY] at*;omega
 ·simp only[Go.Proofs.ltOf,uo,zY] at*;omega
end Go.Pure
namespace Go.Pure
open Go Go.Eng
def nS (ws:List (List Int)) (k:Nat):Nat:=((ws.take k).flatten).length
def rF (ws:List (List Int)) (k:Nat):List Int:=(List.range k).map λi=>(nS ws i:Int)
def turnsOf (w:Int) (j:Nat):List (Int × Int):=(List.range j).map λi:Nat=>(w,(i:Int))
def fT (ws:List (List Int)):Nat->List (Int × Int)
 |0=>[]
 |k+1=>fT ws k++turnsOf k (rdl ws k).length
theorem zT (w:Int) {j:Int} (h:0<=j):turnsOf w (j+1).toNat=turnsOf w j.toNat++[(w,j)]:=by
 obtain⟨j,rfl⟩: ∃m:Nat,j=m:=⟨j.toNat,G⟩;rw[show((j:Int)+1).toNat=j+1 by omega,cu];unfold turnsOf;rw[zq,jo];rfl
theorem FN (w:Int) (j:Nat):(turnsOf w j).length=j:=by simp[turnsOf]
theorem jJ {ws:List (List Int)} {k:Int} (h0:0<=k) (h:k<ws.length):(ws.take (k+1).toNat).flatten=(ws.take k.toNat).flatten++rdl ws k:=by
 rw[show ws.take (k+1).toNat=ws.take k.toNat++[rdl ws k] from ?_]
 ·simp
 ·have hl:k.toNat<ws.length:=G
  rw[show(k+1).toNat=k.toNat+1 by omega,su,av hl];simp[rdl,ai,av hl]
theorem jV {ws:List (List Int)} {k:Int} (h0:0<=k) (h:k<ws.length):nS ws (k+1).toNat=nS ws k.toNat+(rdl ws k).length:=by
 unfold nS;rw[jJ h0 h,ah]
theorem IR (ws:List (List Int)) (k:Nat):nS ws k<=ws.flatten.length:=by
 unfold nS;have:=gu k ws
 calc ((ws.take k).flatten).length<=((ws.take k).flatten).length+((ws.drop k).flatten).length:=Bu _ _
  _=((ws.take k++ws.drop k).flatten).length:=by rw[qg,ah]
  _=_:=by rw[this]
theorem aGu {ws:List (List Int)} {k:Int} (h0:0<=k):rF ws (k+1).toNat=rF ws k.toNat++[(nS ws k.toNat:Int)]:=by
 rw[show(k+1).toNat=k.toNat+1 by omega];unfold rF;rw[zq,jo];rfl
theorem SE (ws:List (List Int)) (k:Nat):(rF ws k).length=k:=by simp[rF]
theorem JQ {ws:List (List Int)} {k:Int} (h0:0<=k):fT ws (k+1).toNat=fT ws k.toNat++turnsOf k (rdl ws k).length:=by
 obtain⟨k,rfl⟩: ∃m:Nat,k=m:=⟨k.toNat,G⟩;rw[show((k:Int)+1).toNat=k+1 by omega,cu];rfl
theorem xC (ws:List (List Int)): ∀k:Nat,k<=ws.length->(fT ws k).length=nS ws k
 |0,_=>rfl
 |k+1,h=>by
  have ih:=xC ws k G;have:=jV (ws:=ws) (k:=k) G G;rw[show((k:Int)+1).toNat=k+1 by omega,cu] at this;show(fT ws k++turnsOf k (rdl ws k).length).length=_;rw[ah,ih,FN,this]
end Go.Pure
namespace Go.Pure
open Go Go.Eng
variable {H:Nat} {h:Int} {ws:List (List Int)} {bs rs:List Int}
def tw (ws:List (List Int)) (t:Int × Int) (j:Nat):Int:=(rdl ws t.1).getD ((t.2.toNat+j)%(rdl ws t.1).length) 0
def TV (ws:List (List Int)) (t:Int × Int):Prop:=0<=t.1/\t.1<ws.length/\0<=t.2/\t.2<(rdl ws t.1).length
def LtH (H:Nat) (U V:Nat->Int):Prop:= ∃k,k<H/\(∀i,i<k->U i=V i)/\U k<V k
def EqH (H:Nat) (U V:Nat->Int):Prop:= ∀i,i<H->U i=V i
theorem EqH.symm {U V:Nat->Int} (h:EqH H U V):EqH H V U:=λi hi=>(h i hi).symm
theorem EqH.trans {U V W:Nat->Int} (h:EqH H U V) (h':EqH H V W):EqH H U W:=λi hi=>(h i hi).trans (h' i hi)
theorem LtH.not_eq {U V:Nat->Int} (h:LtH H U V): ¬EqH H U V:=λe=>by
 obtain⟨k,hk,_,hl⟩:=h;have:=e k hk;omega
theorem LtH.asymm {U V:Nat->Int} (h:LtH H U V): ¬LtH H V U:=by
 obtain⟨k,hk,h1,hl⟩:=h;rintro⟨m,hm,h2,vu⟩;by_cases a:k<m
 ·have:=h2 k a;omega
 ·by_cases b:m<k
  ·have:=h1 m b;omega
  ·have:k=m:=G
   subst this;omega
theorem LtH.trans {U V W:Nat->Int} (h:LtH H U V) (h':LtH H V W):LtH H U W:=by
 obtain⟨k,hk,h1,hl⟩:=h;obtain⟨m,hm,h2,vu⟩:=h';by_cases a:k<m
 ·exact⟨k,hk,λi hi=>(h1 i hi).trans (h2 i G),by rw[<-h2 k a];exact hl⟩
 ·by_cases b:m<k
  ·exact⟨m,hm,λi hi=>(h1 i G).trans (h2 i hi),by rw[h1 m b];exact vu⟩
  ·have:k=m:=G
   subst this;exact⟨k,hk,λi hi=>(h1 i hi).trans (h2 i hi),G⟩
theorem LtH.eq_left {U V W:Nat->Int} (h:EqH H U V) (h':LtH H V W):LtH H U W:=by
 obtain⟨k,hk,h1,hl⟩:=h';exact⟨k,hk,λi hi=>(h i G).trans (h1 i hi),by rw[h k hk];exact hl⟩
theorem LtH.eq_right {U V W:Nat->Int} (h:LtH H U V) (h':EqH H V W):LtH H U W:=by
 obtain⟨k,hk,h1,hl⟩:=h;exact⟨k,hk,λi hi=>(h1 i hi).trans (h' i G),by rw[<-h' k hk];exact hl⟩
theorem tri (H:Nat) (U V:Nat->Int):LtH H U V\/EqH H U V\/LtH H V U:=by
 induction H with
 |zero=>exact .inr (.inl λi hi=>G)
 | succ H ih=>
  rcases ih with⟨k,hk,h⟩|h|⟨k,hk,h⟩
  ·exact .inl ⟨k,G,h⟩
  ·rcases jd (U H) (V H) with a|a|a
   ·exact .inl ⟨H,G,h,a⟩
   ·refine .inr (.inl λi hi=> ?_);by_cases e:i=H
    ·rw[e];exact a
    ·exact h i G
   ·exact .inr (.inr ⟨H,G,λi hi=>(h i hi).symm,a⟩)
  ·exact .inr (.inr ⟨k,G,h⟩)
theorem aJg {h:Nat} {U V:Nat->Int}:EqH (H+h) U V↔EqH H U V/\EqH h (λi=>U (i+H)) (λi=>V (i+H)):=by
 constructor
 ·exact λe=>⟨λi hi=>e i G,λi hi=>e (i+H) G⟩
 ·rintro ⟨a,b⟩ i hi;by_cases c:i<H
  ·exact a i c
  ·have:=b (i-H) G;simpa [qy (show H<=i by omega)] using this
theorem bBn {h:Nat} {U V:Nat->Int}:LtH (H+h) U V↔LtH H U V\/EqH H U V/\LtH h (λi=>U (i+H)) (λi=>V (i+H)):=by
 constructor
 ·rintro ⟨k,hk,h1,hl⟩;by_cases c:k<H
  ·exact .inl ⟨k,c,h1,hl⟩
  ·refine .inr ⟨λi hi=>h1 i G,k-H,G,λi hi=>h1 (i+H) G,?_⟩;simpa [qy (show H<=k by omega)] using hl
 ·rintro (⟨k,hk,h1,hl⟩|⟨e,k,hk,h1,hl⟩)
  ·exact⟨k,G,h1,hl⟩
  ·refine ⟨k+H,G,λi hi=> ?_,hl⟩;by_cases c:i<H
   ·exact e i c
   ·have:=h1 (i-H) G;simpa [qy (show H<=i by omega)] using this
def RK (ws:List (List Int)) (bs:List Int) (H:Nat) (rs:List Int):Prop:= ∀t u,TV ws t->TV ws u->(rd rs (iC bs t)<rd rs (iC bs u)↔LtH H (tw ws t) (tw ws u))/\(rd rs (iC bs t)=rd rs (iC bs u)↔EqH H (tw ws t) (tw ws u))
def sh (ws:List (List Int)) (t:Int × Int) (h:Int):Int × Int:=(t.1,(t.2+h)%((rdl ws t.1).length:Int))
theorem aHu {t:Int × Int} (ht:TV ws t):TV ws (sh ws t h):=by
 obtain⟨a,b,c,d⟩:=ht;exact⟨a,b,ko _ G,ja _ G⟩
theorem VT (ws:List (List Int)) (bs rs:List Int) (t:Int × Int) (h:Int):ahd ws bs rs t h=rd rs (iC bs (sh ws t h)):=rfl
theorem II {t:Int × Int} (ht:TV ws t):sh ws t 0=t:=by
 obtain⟨a,b,c,d⟩:=ht;unfold sh;rw[yh,pu c d]
theorem PO {t:Int × Int} (ht:TV ws t) (hh:0<=h) (j:Nat):tw ws (sh ws t h) j=tw ws t (j+h.toNat):=by
 obtain⟨a,b,c,d⟩:=ht;unfold tw sh;simp only;congr 1;obtain⟨x,hx⟩: ∃m:Nat,t.2=m:=⟨t.2.toNat,G⟩;obtain⟨y,rfl⟩: ∃m:Nat,h=m:=⟨h.toNat,G⟩;rw[hx,cu,cu,show((x:Int)+(y:Int))=((x+y:Nat):Int) by omega,<-Ah,cu,Nat.mod_add_mod];congr 1;omega
def gH (h:Int):Nat:=if h=0 then 1 else(2*h).toNat
def mY (h:Int):Nat:=(max 1 h).toNat
theorem aIs (hh:0<=h) (hr:RK ws bs (mY h) rs) {t u:Int × Int} (ht:TV ws t) (hu:TV ws u):
  (LtH (gH h) (tw ws t) (tw ws u)↔(ahd ws bs rs t 0<ahd ws bs rs u 0\/ahd ws bs rs t 0=ahd ws bs rs u 0/\ahd ws bs rs t h<ahd ws bs rs u h))/\
  (EqH (gH h) (tw ws t) (tw ws u)↔(ahd ws bs rs t 0=ahd ws bs rs u 0/\ahd ws bs rs t h=ahd ws bs rs u h)):=by
 have r0:=hr t u ht hu;have r1:=hr _ _ (aHu (h:=h) ht) (aHu (h:=h) hu);rw[VT,VT,VT,VT,II ht,II hu];by_cases h0:h=0
 ·subst h0;rw[II ht,II hu];have e:gH 0=mY 0:=cC
  rw[e,<-r0.1,<-r0.2];constructor<;>omega
 ·have e1:mY h=h.toNat:=by unfold mY;omega
  have e2:gH h=h.toNat+h.toNat:=by unfold gH;rw[bu h0];omega
  rw[e1] at r0 r1;rw[e2,bBn,aJg,<-r0.1,<-r0.2];have f1:(λi=>tw ws t (i+h.toNat))=tw ws (sh ws t h):=funext λi=>(PO ht hh i).symm;have f2:(λi=>tw ws u (i+h.toNat))=tw ws (sh ws u h):=funext λi=>(PO hu hh i).symm;rw[f1,f2,<-r1.1,<-r1.2];exact⟨Iff.rfl,Iff.rfl⟩
def ltI (t u:Int × Int):Prop:=t.1<u.1\/t.1=u.1/\t.2<u.2
def aTk (ws:List (List Int)) (H:Nat) (t u:Int × Int):Prop:=LtH H (tw ws t) (tw ws u)\/EqH H (tw ws t) (tw ws u)/\ltI t u
theorem aQy (hh:0<=h) (hr:RK ws bs (mY h) rs) {t u:Int × Int} (ht:TV ws t) (hu:TV ws u):aDg ws bs rs h t u<0↔aTk ws (gH h) t u:=by
 obtain⟨a,b⟩:=aIs hh hr ht hu;rw[zY];unfold aTk ltI;rw[a,b];omega
theorem aUo (hh:0<=h) (hr:RK ws bs (mY h) rs) {t u:Int × Int} (ht:TV ws t) (hu:TV ws u):FY ws bs rs h t u↔ ¬EqH (gH h) (tw ws t) (tw ws u):=by
 obtain⟨_,b⟩:=aIs hh hr ht hu;rw[b];unfold FY;omega
theorem vK: ∀ {a b:List Int},a.Perm b->a.Pairwise (· <= ·)->b.Pairwise (· <= ·)->a=b
 |[],b,h,_,_=>(List.nil_perm.1 h).symm
 |x::a,[],h,_,_=>absurd h.symm cD
 | x::a,y::b,h,ha,hb=>by
  have h1:y<=x:=by
   rcases jm.1 (h.mem_iff.1 (.head _)) with e|e
   ·omega
   ·exact(jb.1 hb).1 x e
  have h2:x<=y:=by
   rcases jm.1 (h.mem_iff.2 (.head _)) with e|e
   ·omega
   ·exact(jb.1 ha).1 y e
  have e:x=y:=G
  subst e;rw[vK ((List.perm_cons x).1 h) (jb.1 ha).2 (jb.1 hb).2]
theorem LtH.mono {H M:Nat} {U V:Nat->Int} (h:LtH H U V) (hm:H<=M):LtH M U V:=by
 obtain⟨k,hk,r⟩:=h;exact⟨k,G,r⟩
theorem EqH.mono {H M:Nat} {U V:Nat->Int} (h:EqH M U V) (hm:H<=M):EqH H U V:=λi hi=>h i G
structure Sorted (ws:List (List Int)) (M:Nat) (l:List (Int × Int)):Prop where
 tv: ∀t∈l,TV ws t
 nodup:l.Nodup
 pw:l.Pairwise λx y=> ¬aTk ws M y x
theorem oG {l:List (Int × Int)} {j:Nat} (h:j<l.length):rdp l j=l[j]:=by
 simp[rdp,ai,av h]
theorem Sorted.le {ws:List (List Int)} {M:Nat} {l:List (Int × Int)} (s:Sorted ws M l) {i j:Nat} (pm:i<j) (hj:j<l.length): ¬LtH M (tw ws (rdp l j)) (tw ws (rdp l i)):=by
 have:=dn.1 s.pw i j G hj pm;rw[oG hj,oG G];exact λh=>this (.inl h)
theorem Sorted.eq_between {ws:List (List Int)} {M:Nat} {l:List (Int × Int)} (s:Sorted ws M l) {i m j:Nat} (h1:i<=m) (h2:m<=j) (hj:j<l.length) (he:EqH M (tw ws (rdp l i)) (tw ws (rdp l j))):EqH M (tw ws (rdp l i)) (tw ws (rdp l m)):=by
 rcases Nat.eq_or_lt_of_le h1 with rfl|h1
 ·exact λ_ _=>rfl
 rcases Nat.eq_or_lt_of_le h2 with rfl|h2
 ·exact he
 rcases tri M (tw ws (rdp l i)) (tw ws (rdp l m)) with a|a|a
 ·exact absurd (LtH.eq_left he.symm a) (s.le h2 hj)
 ·exact a
 ·exact absurd a (s.le h1 G)
section
variable {ws:List (List Int)} {bs rs:List Int} {h:Int} {l:List (Int × Int)}
theorem NC (hh:0<=h) (hr:RK ws bs (mY h) rs) (s:Sorted ws (gH h) l) {j:Nat} (hj:j+1<l.length):
  (EqH (gH h) (tw ws (rdp l j)) (tw ws (rdp l (j+1:Nat)))/\iI ws bs rs h l (j+1)=iI ws bs rs h l j)\/(¬EqH (gH h) (tw ws (rdp l j)) (tw ws (rdp l (j+1:Nat)))/\iI ws bs rs h l (j+1)=iI ws bs rs h l j+1):=by
 have ht:=s.tv _ (kN (l:=l) (i:=(j:Int)) G G);have hu:=s.tv _ (kN (l:=l) (i:=((j+1:Nat):Int)) G G);have hk:=aUo hh hr ht hu;show _/\iI ws bs rs h l j+(if FY ws bs rs h (rdp l j) (rdp l (j+1:Nat)) then 1 else 0)=_\/_;by_cases e:EqH (gH h) (tw ws (rdp l j)) (tw ws (rdp l (j+1:Nat)))
 ·exact .inl ⟨e,by rw[bu (λk=>hk.1 k e),yh]⟩
 ·refine .inr ⟨e,?_⟩;show iI ws bs rs h l j+(if FY ws bs rs h (rdp l j) (rdp l (j+1:Nat)) then 1 else 0)=_;rw[df (hk.2 e)]
theorem ND (hh:0<=h) (hr:RK ws bs (mY h) rs) (s:Sorted ws (gH h) l) {i:Nat}: ∀d,i+d<l.length->iI ws bs rs h l i<=iI ws bs rs h l (i+d)/\(iI ws bs rs h l i=iI ws bs rs h l (i+d)↔EqH (gH h) (tw ws (rdp l i)) (tw ws (rdp l (i+d:Nat))))
 |0,_=>⟨lq _,⟨λ_ _ _=>rfl,λ_=>rfl⟩⟩
 | d+1,hd=>by
  obtain⟨a,b⟩:=ND (i:=i) hh hr s d G;rcases NC hh hr s (j:=i+d) hd with⟨e,c⟩|⟨e,c⟩
  ·have c':iI ws bs rs h l (i+(d+1))=iI ws bs rs h l (i+d):=c;rw[c'];refine⟨a,b.trans ⟨λx=>x.trans e,λx=>x.trans e.symm⟩⟩
  ·have c':iI ws bs rs h l (i+(d+1))=iI ws bs rs h l (i+d)+1:=c;rw[c'];refine⟨G,⟨λx=>G,λx=>absurd ?_ e⟩⟩;have y:=s.eq_between (m:=i+d) G G hd x;exact y.symm.trans x
theorem aXj (hh:0<=h) (hr:RK ws bs (mY h) rs) (s:Sorted ws (gH h) l) {i j:Nat} (hi:i<l.length) (hj:j<l.length):
  (iI ws bs rs h l i<iI ws bs rs h l j↔LtH (gH h) (tw ws (rdp l i)) (tw ws (rdp l j)))/\(iI ws bs rs h l i=iI ws bs rs h l j↔EqH (gH h) (tw ws (rdp l i)) (tw ws (rdp l j))):=by
 rcases xx i j with bc|rfl|bc
 ·obtain ⟨d,rfl⟩: ∃d,j=i+d:=⟨j-i,G⟩;obtain⟨a,b⟩:=ND (i:=i) hh hr s d hj;refine⟨?_,b⟩;constructor
  ·intro x;rcases tri (gH h) (tw ws (rdp l i)) (tw ws (rdp l (i+d:Nat))) with y|y|y
   ·exact y
   ·have:=b.2 y;omega
   ·exact absurd y (s.le bc hj)
  ·intro x;have:iI ws bs rs h l i≠iI ws bs rs h l (i+d):=λe=>x.not_eq (b.1 e);omega
 ·exact⟨⟨λx=>G,λx=>absurd x x.asymm⟩,⟨λ_ _ _=>rfl,λ_=>rfl⟩⟩
 ·obtain ⟨d,rfl⟩: ∃d,i=j+d:=⟨i-j,G⟩;obtain⟨a,b⟩:=ND (i:=j) hh hr s d hi;refine⟨⟨λx=>G,λx=>absurd x (s.le bc hi)⟩,⟨λx=>(b.1 x.symm).symm,λx=>(b.2 x.symm).symm⟩⟩
theorem aZw (hh:0<=h) (hr:RK ws bs (mY h) rs) (s:Sorted ws (gH h) l) (ju: ∀t,TV ws t->t∈l) {rk:List Int} (j8: ∀j:Nat,j<l.length->rd rk (iC bs (rdp l j))=iI ws bs rs h l j):RK ws bs (gH h) rk:=by
 intro t u ht hu;obtain⟨i,hi,rfl⟩:=gz.1 (ju t ht);obtain⟨j,hj,rfl⟩:=gz.1 (ju u hu);rw[<-oG hi,<-oG hj,j8 i hi,j8 j hj];exact aXj hh hr s hi hj
structure Steps (bs rs:List Int) (lo:List (Int × Int)) (w:Int):Prop where
 zero:0<lo.length->rd rs (iC bs (rdp lo (0:Nat)))=0
 step: ∀j:Nat,j+1<lo.length->rd rs (iC bs (rdp lo (j+1:Nat)))=rd rs (iC bs (rdp lo j))\/rd rs (iC bs (rdp lo (j+1:Nat)))=rd rs (iC bs (rdp lo j))+1
 last:0<lo.length->rd rs (iC bs (rdp lo ((lo.length-1:Nat):Int)))=w
theorem aDi (hh:0<=h) (hr:RK ws bs (mY h) rs) (s:Sorted ws (gH h) l) {rk:List Int} (j8: ∀j:Nat,j<l.length->rd rk (iC bs (rdp l j))=iI ws bs rs h l j):Steps bs rk l (iI ws bs rs h l (l.length-1)):=by
 refine⟨λh0=>by rw[j8 0 h0];rfl,λj hj=> ?_,λh0=>j8 _ G⟩;rw[j8 _ hj,j8 j G];rcases NC hh hr s hj with⟨_,e⟩|⟨_,e⟩
 ·exact .inl e
 ·exact .inr e
theorem LV {f:Int × Int->Int} {l:List (Int × Int)} (h: ∀j:Nat,j+1<l.length->f (rdp l j)<=f (rdp l (j+1:Nat))):(l.map f).Pairwise (· <= ·):=by
 have mono: ∀d i:Nat,i+d<l.length->f (rdp l i)<=f (rdp l (i+d:Nat)):=by
  intro d
  induction d with
  |zero=>intro i _;exact lq _
  |succ d ih=>intro i hi;exact Ii (ih i G) (h (i+d) G)
 refine iw.2 (dn.2 λi j hi hj pm=> ?_);have:=mono (j-i) i G;rw[show i+(j-i)=j by omega,oG hi,oG hj] at this;exact this
theorem bBa (h0:0<h) (hr:RK ws bs (mY h) rs) (s:Sorted ws (gH h) l) {lo:List (Int × Int)} {w:Int} (hp:l.Perm lo) (st:Steps bs rs lo w) (hw:iI ws bs rs h l (l.length-1)=w) {i j:Nat} (hi:i<l.length) (hj:j<l.length)
  (he:EqH (mY h) (tw ws (rdp l i)) (tw ws (rdp l j))):EqH (gH h) (tw ws (rdp l i)) (tw ws (rdp l j)):=by
 have hh:0<=h:=G
 have Pd:mY h<=gH h:=by unfold mY gH;rw[bu G];omega
 have hlen:=hp.length_eq
 let g:Int × Int->Int:=λt=>rd rs (iC bs t)
 have Qd: ∀j:Nat,j<l.length->TV ws (rdp l j):=λj hj=>s.tv _ (kN G G)
 have ga:(l.map g).Pairwise (· <= ·):=LV λj hj=>by
  have hn:=s.le (i:=j) (j:=j+1) G hj;have:=(hr _ _ (Qd (j+1) hj) (Qd j G)).1;have Uy: ¬rd rs (iC bs (rdp l (j+1:Nat)))<rd rs (iC bs (rdp l j)):=λx=>hn ((this.1 x).mono Pd);show rd rs (iC bs (rdp l j))<=rd rs (iC bs (rdp l (j+1:Nat)));omega
 have gb:(lo.map g).Pairwise (· <= ·):=LV λj hj=>by
  show rd rs (iC bs (rdp lo j))<=rd rs (iC bs (rdp lo (j+1:Nat)));rcases st.step j hj with e|e<;>omega
 have g7:=vK (hp.map g) ga gb
 have gj: ∀j:Nat,j<l.length->g (rdp l j)=g (rdp lo j):=λj hj=>by
  have h2:j<lo.length:=G
  have:=bq (λq=>q[j]?) g7;simp only[sj,av hj,av h2,ky,mg] at this;rw[oG hj,oG h2];exact this
 have key: ∀d k:Nat,k+d<l.length->iI ws bs rs h l k-g (rdp l k)<=iI ws bs rs h l (k+d)-g (rdp l (k+d:Nat)):=by
  intro d
  induction d with
  |zero=>intro k _;exact lq _
  | succ d ih=>
   intro k hk;refine Ii (ih k G) ?_;have e1:=gj (k+d) G;have e2:=gj (k+(d+1)) hk;have gv:=st.step (k+d) G;have hg:g (rdp lo (k+(d+1):Nat))=g (rdp lo (k+d:Nat))\/g (rdp lo (k+(d+1):Nat))=g (rdp lo (k+d:Nat))+1:=gv;rcases NC hh hr s (j:=k+d) hk with⟨e,c⟩|⟨e,c⟩
   ·have c':iI ws bs rs h l (k+(d+1))=iI ws bs rs h l (k+d):=c;have:=(hr _ _ (Qd (k+d) G) (Qd (k+d+1) hk)).2.2 (e.mono Pd);have this':g (rdp l (k+d:Nat))=g (rdp l (k+(d+1):Nat)):=this;omega
   ·have c':iI ws bs rs h l (k+(d+1))=iI ws bs rs h l (k+d)+1:=c;omega
 have Qp: ∀k:Nat,k<l.length->iI ws bs rs h l k=g (rdp l k):=by
  intro k hk;have ee:0<l.length:=G
  have a:=key k 0 G;have b:=key (l.length-1-k) k G;rw[ng] at a;rw[show k+(l.length-1-k)=l.length-1 by omega,hw] at b;have z:=gj 0 ee;have z':g (rdp lo (0:Nat))=0:=st.zero G;have y:=gj (l.length-1) G;have y':=st.last G;rw[<-hlen] at y';have y'':g (rdp lo ((l.length-1:Nat):Int))=w:=y';have c0:iI ws bs rs h l 0=0:=rfl;omega
 have e1:=(hr _ _ (Qd i hi) (Qd j hj)).2.2 he;refine(aXj hh hr s hi hj).2.1 ?_;rw[Qp i hi,Qp j hj];exact e1
end
def Lyn (f:Nat->Int) (p:Nat):Prop:=0<p/\ ∀r,0<r->r<p-> ∃d,r+d<p/\(∀e,e<d->f e=f (r+e))/\f d<f (r+d)
def wY (f:Nat->Int) (p j:Nat):Prop:= ∀i,i+p<j->f (i+p)=f i
theorem wY.mod {f:Nat->Int} {p j:Nat} (hp:0<p) (h:wY f p j): ∀i,i<j->f i=f (i%p):=by
 intro i
 induction i using Nat.strongRecOn with
 | ind i ih=>
  intro hi;rcases fe i p with a|a
  ·rw[lc a]
  ·have e:=h (i-p) G;rw[show i-p+p=i by omega] at e;rw[e,ih (i-p) G G];congr 1;rw[zk a]
theorem aWq {f:Nat->Int} {p j:Nat} (hL:Lyn f p) (pn:wY f p j) (Lk:p<=j) (bc:f (j-p)<f j):Lyn f (j+1):=by
 obtain⟨hp,hL⟩:=hL;have hm:=pn.mod hp;refine⟨G,λr h0 hr=> ?_⟩;have hjp:(j-p)%p=j%p:=(zk Lk).symm
 have hq: ∀e,r+e<j->r%p+e<p->f (r+e)=f (r%p+e):=by
  intro e h1 h2;rw[hm _ h1];congr 1;rw[Jn,lc (a:=e) G,lc h2]
 have hjm:f (j-p)=f (j%p):=by rw[hm (j-p) G,hjp]
 rcases dz (r%p) with hz|hz
 ·refine ⟨j-r,G,λe he=> ?_,?_⟩
  ·rw [hm e G,hm (r+e) G];congr 1;rw[Jn,hz,ng,Nat.mod_mod]
  ·rw [show r+(j-r)=j by omega]
   have e1:(j-r)%p=j%p:=by
    have:j=r+(j-r):=G
    conv=>rhs;rw[this,Jn,hz,ng,Nat.mod_mod]
   rcases fe 0 r with _|_
   ·rw[hm (j-r) G,e1,<-hjm];exact bc
   ·omega
 ·obtain ⟨d0,hd,g7,hl⟩:=hL (r%p) hz (yw _ hp);rcases fe (r+d0) j with a|a
  ·refine ⟨d0,G,λe he=> ?_,?_⟩
   ·rw[hq e G G];exact g7 e he
   ·rw[hq d0 a hd];exact hl
  ·refine ⟨j-r,G,λe he=> ?_,?_⟩
   ·rw[hq e G G];exact g7 e G
   ·rw [show r+(j-r)=j by omega]
    have e1:j%p=r%p+(j-r):=by
     have:j=r+(j-r):=G
     conv=>lhs;rw[this,Jn,lc (a:=j-r) G]
     exact lc G
    rw[e1] at hjm
    have:f (j-r)<=f (r%p+(j-r)):=by
     rcases fe (j-r) d0 with b|b
     ·exact Int.le_of_eq (g7 _ b)
     ·have:j-r=d0:=G
      rw[this];omega
    omega
theorem aOo {f:Nat->Int} {p j n:Nat} (hp:0<p) (pn:wY f p j) (Lk:p<=j) (d5:j<n->f j<f (j-p)) {m:Nat} (Yr:p<m) (hm:m<=n): ¬Lyn f m:=by
 rintro⟨_,h⟩;obtain⟨d,hd,g7,hl⟩:=h p hp Yr;rcases fe (p+d) j with a|a
 ·have:=pn d G;rw[vz p d,this] at hl;omega
 ·have hs:=d5 G;rcases fe (j-p) d with b|b
  ·have:=g7 _ b;rw[show p+(j-p)=j by omega] at this;omega
  ·rw [show j-p=d by omega] at hs;rw[show p+d=j by omega] at hl;omega
def lt (s:List Int) (i:Nat):Int:=s.getD i 0
theorem pM: ∀(u v:List Int),v.length<u.length->(cmpL u v<0↔ ∃d,d<v.length/\(∀e,e<d->lt u e=lt v e)/\lt u d<lt v d)
 |[],v,h=>by simp at h
 |a::u,[],h=>by simp[cmpL]
 | a::u,b::v,h=>by
  have ih:=pM u v (by simpa using h);rw[cmpL];rcases jd a b with c|c|c
  ·rw [df c];exact⟨λ_=>⟨0,cD,λe he=>G,c⟩,λ_=>G⟩
  ·subst c;rw[bu G,bu G,ih];constructor
   ·rintro ⟨d,h1,h2,h3⟩;refine⟨d+1,by simpa using h1,λe he=> ?_,h3⟩;cases e with
    |zero=>rfl
    |succ e=>exact h2 e G
   ·rintro ⟨d,h1,h2,h3⟩;cases d with
    |zero=>exact absurd h3 (by simp[lt])
    |succ d=>exact⟨d,by simpa using h1,λe he=>h2 (e+1) G,h3⟩
  ·rw [bu G,df c];refine⟨λh=>G,?_⟩;rintro⟨d,h1,h2,h3⟩;cases d with
   |zero=>have:a<b:=h3;omega
   |succ d=>have:a=b:=h2 0 G;omega
theorem iU (s:List Int) (a i:Nat):lt (s.drop a) i=lt s (a+i):=by simp[lt,ai]
theorem lt_take {s:List Int} {a i:Nat} (h:i<a):lt (s.take a) i=lt s i:=by simp[lt,ai,h]
theorem LX {s:List Int} {i:Int}:rd s i=lt s i.toNat:=rfl
def sV (s:List Int):Bool:= !s.isEmpty && (List.range s.length).all λr=>Nat.beq r 0||decide (cmpL s (s.drop r)<0)
theorem oV (s:List Int):sV s=true↔0<s.length/\ ∀r:Nat,0<r->r<s.length->cmpL s (s.drop r)<0:=by
 unfold sV;rw[pq,ww];have e:(!s.isEmpty)=true↔0<s.length:=by cases s<;>simp
 rw[e];refine and_congr_right λ_=>⟨λh r h0 hr=> ?_,λh r hr=> ?_⟩
 ·have:=h r (jq.2 hr);rw[zo,iv] at this;rcases this with a|a
  ·have:=yf a;omega
  ·exact a
 ·rw [zo,iv];rcases dz r with a|a
  ·left;subst a;rfl
  ·exact .inr (h r a (jq.1 hr))
theorem aCo (s:List Int) (a p:Nat) (h:a+p<=s.length):sV ((s.drop a).take p)=true↔Lyn (λi=>lt s (a+i)) p:=by
 have hl:((s.drop a).take p).length=p:=by rw[ax,ay];omega
 rw[oV,hl];unfold Lyn;refine and_congr_right λ_=>forall_congr' λr=>forall_congr' λh0=>forall_congr' λhr=> ?_;rw[pM _ _ (by rw[ay,hl];omega),ay,hl];constructor
 ·rintro ⟨d,h1,h2,h3⟩;refine⟨d,G,λe he=> ?_,?_⟩
  ·have:=h2 e he;rwa[iU,lt_take G,lt_take G,iU,iU] at this
  ·rwa[iU,lt_take G,lt_take G,iU,iU] at h3
 ·rintro ⟨d,h1,h2,h3⟩;refine⟨d,G,λe he=> ?_,?_⟩
  ·rw[iU,lt_take G,lt_take G,iU,iU];exact h2 e he
  ·rw[iU,lt_take G,lt_take G,iU,iU];exact h3
def iM (s:List Int):Nat->Nat
 |0=>0
 |n+1=>if sV (s.take (n+1)) then n+1 else iM s n
theorem EO {s:List Int} {p:Nat} (h:sV (s.take p)=true): ∀n,p<=n->(∀m,p<m->m<=n->sV (s.take m)=false)->iM s n=p
 |0,hp,_=>by unfold iM;omega
 | n+1,hp,hn=>by
  unfold iM;rcases fe p (n+1) with a|a
  ·rw [hn (n+1) a (di _)];simp only[wh,xe];exact EO h n G λm h1 h2=>hn m h1 G
  ·have:p=n+1:=G
   subst this;rw[h,df rfl]
theorem ZP (s:List Int) (h:0<s.length):sV (s.take 1)=true:=by
 cases s with
 |nil=>simp at h
 |cons a s=>rfl
theorem qL {s:List Int} (h:0<s.length): ∀n,0<n->0<iM s n
 | n+1,_=>by
  unfold iM;split
  ·omega
  ·rename_i hh;cases n with
   |zero=>exact absurd (ZP s h) hh
   |succ n=>exact qL h (n+1) G
theorem QY (s:List Int): ∀n,iM s n<=n
 |0=>di _
 |n+1=>by
  unfold iM;split
  ·omega
  ·have:=QY s n;omega
def OS:Nat->List Int->List Int
 |0,_=>[]
 |f+1,s=>if s.isEmpty then [] else(iM s s.length:Int)::OS f (s.drop (iM s s.length))
def dM (s:List Int):List Int:=OS s.length s
theorem RL: ∀(f g:Nat) (s:List Int),s.length<=f->s.length<=g->OS f s=OS g s
 |0,g,s,h,_=>by
  have:s=[]:=Aj.1 G;subst this;cases g<;>rfl
 |f+1,0,s,_,h=>by
  have:s=[]:=Aj.1 G;subst this;rfl
 | f+1,g+1,s,h1,h2=>by
  unfold OS;cases s with
  |nil=>rfl
  |cons a s=>
   simp only[Dh,wh,xe];have:=qL (s:=a::s) cD (a::s).length cD;rw[RL f g _ (by rw[ay];omega) (by rw[ay];omega)]
theorem MJ {s:List Int} (h:s.length=0):dM s=[]:=by
 have:s=[]:=Aj.1 h;subst this;rfl
theorem EU {s:List Int} (h:0<s.length):dM s=(iM s s.length:Int)::dM (s.drop (iM s s.length)):=by
 unfold dM;cases s with
 |nil=>simp at h
 |cons a s=>
  rw[show(a::s).length=s.length+1 from rfl,OS];simp only[Dh,wh,xe];have:=qL (s:=a::s) cD (a::s).length cD;rw[show s.length+1=(a::s).length from rfl];congr 1;exact RL _ _ _ (by rw[ay];simp only[dh] at*;omega) (di _)
theorem aOp {s:List Int} {a p j:Nat} (hL:Lyn (λi=>lt s (a+i)) p) (pn:wY (λi=>lt s (a+i)) p j) (Lk:p<=j) (Uo:a+j<=s.length) (d5:a+j<s.length->lt s (a+j)<lt s (a+j-p)):iM (s.drop a) (s.drop a).length=p:=by
 have hp:=hL.1;refine EO ((aCo s a p G).2 hL) _ (by rw[ay];omega) λm h1 h2=> ?_;rw[ay] at h2;cases hb:sV ((s.drop a).take m) with
 |false=>rfl
 |true=>
  exact absurd ((aCo s a m G).1 hb) (aOo (f:=λi=>lt s (a+i)) (n:=s.length-a) hp pn Lk (λh=>by rw[show a+(j-p)=a+j-p by omega];exact d5 G) h1 h2)
theorem Lyn.over {s:List Int} {a p j:Nat} (hL:Lyn (λi=>lt s (a+i)) p) (pn:wY (λi=>lt s (a+i)) p j) (Lk:p+p<=j):Lyn (λi=>lt s (a+p+i)) p:=by
 refine⟨hL.1,λr h0 hr=> ?_⟩;obtain⟨d,h1,h2,h3⟩:=hL.2 r h0 hr
 have e: ∀i,i<p->lt s (a+p+i)=lt s (a+i):=λi hi=>by
  have:=pn i G;rw[show a+p+i=a+(i+p) by omega];exact this
 refine⟨d,h1,λq hq=> ?_,?_⟩
 ·simp only at h2 ⊢;rw[e q G,e (r+q) G];exact h2 q hq
 ·simp only at h3 ⊢;rw[e d G,e (r+d) G];exact h3
theorem wY.over {s:List Int} {a p j:Nat} (pn:wY (λi=>lt s (a+i)) p j) (Lk:p<=j):wY (λi=>lt s (a+p+i)) p (j-p):=by
 intro i hi;have:=pn (i+p) G;simp only at this ⊢;rw[show a+p+(i+p)=a+(i+p+p) by omega,show a+p+i=a+(i+p) by omega];exact this
theorem bBj (f:Nat->Int):Lyn f 1:=⟨G,λr h0 hr=>G⟩
theorem aTb (f:Nat->Int):wY f 1 1:=λi hi=>G
theorem aMq (f:Nat->Int) (p:Nat):wY f p p:=λi hi=>G
theorem wY.snoc {f:Nat->Int} {p j:Nat} (h:wY f p j) (Lk:p<=j) (he:f j=f (j-p)):wY f p (j+1):=by
 intro i hi;rcases fe (i+p) j with a|a
 ·exact h i a
 ·rw[show i+p=j by omega,he];congr 1;omega
section
variable {s:List Int} {a i j b:Int}
def sW (s:List Int) (a p:Int):Prop:=Lyn (λe=>lt s (a.toNat+e)) p.toNat
def sP (s:List Int) (a p n:Int):Prop:=wY (λe=>lt s (a.toNat+e)) p.toNat n.toNat
theorem GC:sW s a (a+1-a)/\sP s a (a+1-a) (a+1-a):=by
 unfold sW sP;rw[show(a+1-a).toNat=1 by omega];exact⟨bBj _,aTb _⟩
theorem aBb (h0:0<=a) (s8:a<=i) (pm:i<j) (hL:sW s a (j-i)) (hP:sP s a (j-i) (j-a)) (bc:rd s i<rd s j):sW s a (j+1-a)/\sP s a (j+1-a) (j+1-a):=by
 refine⟨?_,aMq _ _⟩;unfold sW
 have:=aWq hL hP G (by
  show lt s (a.toNat+((j-a).toNat-(j-i).toNat))<lt s (a.toNat+(j-a).toNat);rw[show a.toNat+((j-a).toNat-(j-i).toNat)=i.toNat by omega,show a.toNat+(j-a).toNat=j.toNat by omega]
  exact bc)
 rwa[show(j-a).toNat+1=(j+1-a).toNat by omega] at this
theorem aBc (h0:0<=a) (s8:a<=i) (pm:i<j) (hL:sW s a (j-i)) (hP:sP s a (j-i) (j-a)) (he:rd s i<=rd s j) (hn: ¬rd s i<rd s j):sW s a (j+1-(i+1))/\sP s a (j+1-(i+1)) (j+1-a):=by
 rw[show j+1-(i+1)=j-i by omega];refine⟨hL,?_⟩;unfold sP;rw[show(j+1-a).toNat=(j-a).toNat+1 by omega];refine wY.snoc hP G ?_;show lt s (a.toNat+(j-a).toNat)=lt s (a.toNat+((j-a).toNat-(j-i).toNat));rw[show a.toNat+((j-a).toNat-(j-i).toNat)=i.toNat by omega,show a.toNat+(j-a).toNat=j.toNat by omega];have:rd s i=rd s j:=G
 exact this.symm
theorem aOn (h0:0<=b) (sm:b<=i) (pm:i<j) (hj:j<=s.length) (hL:sW s b (j-i)) (hP:sP s b (j-i) (j-b)) (d5: ¬(j<s.length/\rd s i<=rd s j)):dM (s.drop b.toNat)=(j-i)::dM (s.drop (b+(j-i)).toNat):=by
 have hlen:=aOp hL hP G G λh=>by
  rw[show b.toNat+(j-b).toNat=j.toNat by omega,show j.toNat-(j-i).toNat=i.toNat by omega];have: ¬rd s i<=rd s j:=λhh=>d5 ⟨G,hh⟩;have:rd s j<rd s i:=G
  exact this
 have ee:0<(s.drop b.toNat).length:=by rw[ay];omega
 rw[EU ee,hlen,Fy];rw[show((j-i).toNat:Int)=j-i by omega,show b.toNat+(j-i).toNat=(b+(j-i)).toNat by omega]
theorem aFp (h0:0<=b) (pm:i<j) (hL:sW s b (j-i)) (hP:sP s b (j-i) (j-b)) (h:b+(j-i)<=i):sW s (b+(j-i)) (j-i)/\sP s (b+(j-i)) (j-i) (j-(b+(j-i))):=by
 unfold sW sP;rw[show(b+(j-i)).toNat=b.toNat+(j-i).toNat by omega,show(j-(b+(j-i))).toNat=(j-b).toNat-(j-i).toNat by omega];exact⟨Lyn.over hL hP G,wY.over hP G⟩
end
theorem ZO {s:List Int} {n:Int} (h1:1<=n) (hn:n<=s.length) (h: ¬sV (s.take n.toNat)=true):1<=n-1/\iM s (n-1).toNat=iM s n.toNat:=by
 obtain⟨m,rfl⟩: ∃m:Nat,n=m+1:=⟨(n-1).toNat,G⟩;have e:((m:Int)+1).toNat=m+1:=G
 rw[e] at h;rw[e,show((m:Int)+1-1).toNat=m by omega,iM,bu h];refine⟨?_,rfl⟩;rcases dz m with z|z
 ·subst z;exact absurd (ZP s G) h
 ·omega
theorem aEr {s:List Int} {n:Int} (h1:1<=n) (h:sV (s.take n.toNat)=true):(iM s n.toNat:Int)=n:=by
 obtain⟨m,rfl⟩: ∃m:Nat,n=m+1:=⟨(n-1).toNat,G⟩;have e:((m:Int)+1).toNat=m+1:=G
 rw[e] at h;rw[e,iM,df h];omega
variable {s:List Int} {i d h n b k:Nat}
theorem aUa {M:Nat} {U V:Nat->Int}:LtH (M+1) U V↔U 0<V 0\/U 0=V 0/\LtH M (λi=>U (i+1)) (λi=>V (i+1)):=by
 constructor
 ·rintro ⟨k,hk,h1,h2⟩;cases k with
  |zero=>exact .inl h2
  |succ k=>exact .inr ⟨h1 0 G,k,G,λi hi=>h1 (i+1) G,h2⟩
 ·rintro (h|⟨e,k,hk,h1,h2⟩)
  ·exact⟨0,G,λi hi=>G,h⟩
  ·refine ⟨k+1,G,λi hi=> ?_,h2⟩;cases i with
   |zero=>exact e
   |succ i=>exact h1 i G
def pad (m:Int) (l:List Int) (d:Nat):Int:=if d<l.length then lt l d-m+1 else 0
theorem aBu (m:Int): ∀(a b:List Int) (N:Nat),a.length<=N->b.length<=N->(∀x∈a,m<=x)->(∀x∈b,m<=x)->(cmpL a b<0↔LtH N (pad m a) (pad m b))
 |[],[],N,_,_,_,_=>by
  simp only[cmpL];refine⟨λh=>G,?_⟩;rintro⟨k,_,_,h⟩;simp[pad] at h
 |[],b::v,N,_,hb,_,mb=>by
  simp only[cmpL];have:=mb b cD;refine⟨λ_=>⟨0,by simp only[dh] at hb;omega,λi hi=>G,?_⟩,λ_=>G⟩;have e1:pad m [] 0=0:=rfl;have e2:pad m (b::v) 0=b-m+1:=by unfold pad;rw[df cD];rfl
  rw[e1,e2];omega
 | a::u,[],N,_,_,ma,_=>by
  simp only[cmpL];refine⟨λh=>G,?_⟩;rintro⟨k,_,_,h⟩;exfalso;have e1:pad m [] k=0:=by unfold pad;rw[bu cD]
  rw[e1] at h;unfold pad at h;split at h
  ·rename_i hk
   have:m<=lt (a::u) k:=ma _ (by
    unfold lt;rw[ai,av hk]
    exact lu _)
   omega
  ·omega
 |a::u,b::v,0,h,_,_,_=>by simp at h
 | a::u,b::v,N+1,ha,hb,ma,mb=>by
  have ih:=aBu m u v N (by simpa using ha) (by simpa using hb) (λx hx=>ma x (ek _ hx)) (λx hx=>mb x (ek _ hx));have e0: ∀(x:Int) (xs:List Int),pad m (x::xs) 0=x-m+1:=λx xs=>by unfold pad;rw[df cD];rfl
  have e1: ∀(x:Int) (xs:List Int),(λi=>pad m (x::xs) (i+1))=pad m xs:=λx xs=>by
   funext i;unfold pad;by_cases h:i<xs.length
   ·rw[df (by simpa using h),df h];rfl
   ·rw[bu (by simpa using h),bu h]
  rw[cmpL,aUa,e0,e0,e1,e1];rcases jd a b with c|c|c
  ·rw [df c];exact⟨λ_=> .inl G,λ_=>G⟩
  ·subst c;rw[bu G,bu G,ih];exact⟨λh=> .inr ⟨rfl,h⟩,λh=>h.elim (λh=>G) λh=>h.2⟩
  ·rw [bu G,df c];exact⟨λh=>G,λh=>h.elim (λh=>G) λh=>G⟩
def lo (s:List Int):Int:=s.foldr min 0
theorem aUd: ∀ {s:List Int} {x:Int},x∈s->lo s<=x
 | a::s,x,h=>by
  unfold lo;rw[List.foldr_cons];rcases jm.1 h with rfl|h
  ·exact Int.min_le_left _ _
  ·have:=aUd h;unfold lo at this;omega
def eu (s:List Int) (i d:Nat):Int:=if i+d<s.length then lt s (i+d)-lo s+1 else 0
theorem bGz (h:i<s.length):lt s i∈s:=by
 unfold lt;rw[ai,av h];exact lu _
theorem rQ (h:i+d<s.length):0<eu s i d:=by
 have:=aUd (bGz h);unfold eu;rw[df h];omega
theorem jE (h:s.length<=i+d):eu s i d=0:=by unfold eu;rw[bu G]
theorem wK (s:List Int) (i b d:Nat):eu s (i+b) d=eu s i (b+d):=by unfold eu;rw[mr]
def sK (s:List Int) (i h:Nat):List Int:=(s.drop i).take h
theorem aBi (hd:d<h):pad (lo s) (sK s i h) d=eu s i d:=by
 unfold pad eu sK;rw[ax,ay];by_cases c:i+d<s.length
 ·rw[df G,df c,lt_take hd,iU]
 ·rw[bu G,bu c]
theorem aNd {H:Nat} {U U' V V':Nat->Int} (h1: ∀i,i<H->U i=U' i) (h2: ∀i,i<H->V i=V' i):LtH H U V↔LtH H U' V':=by
 constructor
 ·rintro ⟨k,hk,a,b⟩;exact⟨k,hk,λi hi=>by rw[<-h1 i G,<-h2 i G];exact a i hi,by rw[<-h1 k hk,<-h2 k hk];exact b⟩
 ·rintro ⟨k,hk,a,b⟩;exact⟨k,hk,λi hi=>by rw[h1 i G,h2 i G];exact a i hi,by rw[h1 k hk,h2 k hk];exact b⟩
theorem wP (s:List Int) (i k h:Nat):cmpL (sK s i h) (sK s k h)<0↔LtH h (eu s i) (eu s k):=by
 have hm: ∀j,∀x∈sK s j h,lo s<=x:=λj x hx=>aUd (pg (lv hx));rw[aBu (lo s) _ _ h (by unfold sK;rw[ax];omega) (by unfold sK;rw[ax];omega) (hm i) (hm k)];exact aNd (λd hd=>aBi hd) λd hd=>aBi hd
theorem bBk {U V:Nat->Int} (hb:b<=n):LtH (n+b) U V↔LtH n U V\/EqH n U V/\LtH n (λi=>U (b+i)) (λi=>V (b+i)):=by
 constructor
 ·rintro ⟨k,hk,h1,h2⟩;rcases fe k n with a|a
  ·exact .inl ⟨k,a,h1,h2⟩
  ·refine .inr ⟨λi hi=>h1 i G,k-b,G,λi hi=>h1 (b+i) G,?_⟩;show U (b+(k-b))<V (b+(k-b));rw[show b+(k-b)=k by omega];exact h2
 ·rintro (h|⟨e,k,hk,h1,h2⟩)
  ·exact h.mono G
  ·refine ⟨b+k,G,λi hi=> ?_,h2⟩;rcases fe i n with a|a
   ·exact e i a
   ·have:=h1 (i-b) G;simp only at this;rwa[show b+(i-b)=i by omega] at this
theorem bCe {U V:Nat->Int} (hb:b<=n):EqH (n+b) U V↔EqH n U V/\EqH n (λi=>U (b+i)) (λi=>V (b+i)):=by
 constructor
 ·exact λe=>⟨λi hi=>e i G,λi hi=>e (b+i) G⟩
 ·rintro ⟨e,f⟩ i hi;rcases fe i n with a|a
  ·exact e i a
  ·have:=f (i-b) G;simp only at this;rwa[show b+(i-b)=i by omega] at this
def rkS (s:List Int) (h i:Nat):Nat:=(List.range s.length).countP λk=>decide (cmpL (sK s k h) (sK s i h)<0)
theorem rT {α:Type} {p q:α->Bool}: ∀ {l:List α},(∀x∈l,p x=true->q x=true)->(∃x∈l,p x=false/\q x=true)->l.countP p<l.countP q
 |[],_,h=>by obtain⟨x,hx,_⟩:=h;cases hx
 | a::l,h,hx=>by
  have hl:l.countP p<=l.countP q:=Du λx hx=>h x (ek _ hx);obtain⟨x,hm,h1,h2⟩:=hx;rw[List.countP_cons,List.countP_cons];rcases jm.1 hm with rfl|hm
  ·rw[h1,h2];simp;omega
  ·have ih:=rT (λy hy=>h y (ek _ hy)) ⟨x,hm,h1,h2⟩;have ha:=h a cD;cases hp:p a with
   |false=>cases q a<;>simp<;>omega
   |true=>rw[ha hp];simp;omega
theorem vP (hi:i<s.length):rkS s h i<rkS s h k↔LtH h (eu s i) (eu s k):=by
 constructor
 ·intro hr;rcases tri h (eu s i) (eu s k) with a|a|a
  ·exact a
  ·exfalso
   have:rkS s h k<=rkS s h i:=Du λx _ hx=>by
    rw[iv,wP] at hx ⊢;exact hx.eq_right a.symm
   omega
  ·exfalso
   have:rkS s h k<=rkS s h i:=Du λx _ hx=>by
    rw[iv,wP] at hx ⊢;exact hx.trans a
   omega
 ·intro hl;refine rT (λx _ hx=> ?_) ⟨i,jq.2 hi,?_,?_⟩
  ·rw [iv,wP] at hx ⊢;exact hx.trans hl
  ·rw [uo,wP];exact λh=>h.asymm h
  ·rw [iv,wP];exact hl
theorem aIb (hi:i<s.length) (hk:k<s.length):rkS s h i=rkS s h k↔EqH h (eu s i) (eu s k):=by
 constructor
 ·intro he;rcases tri h (eu s i) (eu s k) with a|a|a
  ·have:=(vP hi).2 a;omega
  ·exact a
  ·have:=(vP hk).2 a;omega
 ·intro he;rcases xx (rkS s h i) (rkS s h k) with a|a|a
  ·exact absurd he ((vP hi).1 a).not_eq
  ·exact a
  ·exact absurd he.symm ((vP hk).1 a).not_eq
def rY (s:List Int) (n i:Nat):Nat:=if i<s.length then rkS s n i+1 else 0
theorem AX (hn:0<n):rY s n i<rY s n k↔LtH n (eu s i) (eu s k):=by
 unfold rY;by_cases hi:i<s.length
 ·by_cases hk:k<s.length
  ·rw[df hi,df hk,<-vP hi];omega
  ·rw [df hi,bu hk];refine⟨λh=>G,?_⟩;rintro⟨d,_,_,h2⟩;rw[jE (s:=s) (i:=k) G] at h2;rcases fe (i+d) s.length with a|a
   ·have:=rQ a;omega
   ·rw[jE a] at h2;omega
 ·by_cases hk:k<s.length
  ·rw [bu hi,df hk];refine⟨λ_=>⟨0,hn,λd hd=>G,?_⟩,λ_=>G⟩;rw[jE G];exact rQ G
  ·rw [bu hi,bu hk];refine⟨λh=>G,?_⟩;rintro⟨d,_,_,h2⟩;rw[jE (s:=s) (i:=k) G,jE G] at h2;omega
theorem aZy (hn:0<n):rY s n i=rY s n k↔EqH n (eu s i) (eu s k):=by
 constructor
 ·intro he;rcases tri n (eu s i) (eu s k) with a|a|a
  ·have:=(AX hn).2 a;omega
  ·exact a
  ·have:=(AX hn).2 a;omega
 ·intro he;rcases xx (rY s n i) (rY s n k) with a|a|a
  ·exact absurd he ((AX hn).1 a).not_eq
  ·exact a
  ·exact absurd he.symm ((AX hn).1 a).not_eq
theorem aDu (hn:0<n) (hb:b<=n) (hi:i<s.length) (hk:k<s.length):rkS s (n+b) i<rkS s (n+b) k↔rkS s n i<rkS s n k\/rkS s n i=rkS s n k/\rY s n (i+b)<rY s n (k+b):=by
 rw[vP hi,bBk hb,vP hi,aIb hi hk,AX hn];have e: ∀j,eu s (j+b)=λd=>eu s j (b+d):=λj=>funext λd=>wK s j b d;rw[e,e]
theorem KE (hn:0<n) (hb:b<=n) (hi:i<s.length) (hk:k<s.length):rkS s (n+b) i=rkS s (n+b) k↔rkS s n i=rkS s n k/\rY s n (i+b)=rY s n (k+b):=by
 rw[aIb hi hk,bCe hb,aIb hi hk,aZy hn];have e: ∀j,eu s (j+b)=λd=>eu s j (b+d):=λj=>funext λd=>wK s j b d;rw[e,e]
theorem bGa {i:Nat} {o:List Nat} (hp:o.Perm (List.range s.length)) (hs:o.Pairwise λx y=>rkS s h x<=rkS s h y) (hi:i<o.length) (Oi: ∀(hz:0<i),rkS s h (o[i-1]' G)≠rkS s h o[i]):rkS s h o[i]=i:=by
 have hm: ∀x∈o,x<s.length:=λx hx=>jq.1 (hp.subset hx)
 have e:rkS s h o[i]=o.countP λk=>decide (rkS s h k<rkS s h o[i]):=by
  have e1:rkS s h o[i]=o.countP λk=>decide (cmpL (sK s k h) (sK s o[i] h)<0):=by
   unfold rkS;rw[<-hp.countP_eq]
  rw[e1];refine Gr λx hx=> ?_;rw[iv,iv,wP,<-vP (hm x hx),<-e1]
 rw[e];have Yx:o=o.take i++o.drop i:=(gu i o).symm
 have h1:(o.take i).countP (λk=>decide (rkS s h k<rkS s h o[i]))=i:=by
  have:(o.take i).length=i:=by rw[ax];omega
  conv=>rhs;rw[<-this]
  rw[List.countP_eq_length];intro x hx;rw[iv];obtain⟨j,hj,rfl⟩:=gz.1 hx;rw[ax] at hj;rw[ym];have hz:0<i:=G
  have hprev:=Oi hz;have ph:rkS s h (o[i-1]' G)<=rkS s h o[i]:=dn.1 hs (i-1) i G hi G;rcases fe j (i-1) with a|a
  ·have:=dn.1 hs j (i-1) G G a;omega
  ·have:j=i-1:=G
   subst this;omega
 have h2:(o.drop i).countP (λk=>decide (rkS s h k<rkS s h o[i]))=0:=by
  rw[Bz];intro x hx;rw[iv];obtain⟨j,hj,rfl⟩:=gz.1 hx;rw[ay] at hj;rw[Be];rcases dz j with z|z
  ·subst z;simp
  ·have:=dn.1 hs i (i+j) hi G G;omega
 have h3:(o.take i++o.drop i).countP (λk=>decide (rkS s h k<rkS s h o[i]))=i:=by rw[List.countP_append,h1,h2,qm]
 rwa[gu] at h3
theorem wE {w:Int} {j:Nat} {t:Int × Int}:t∈turnsOf w j↔t.1=w/\0<=t.2/\t.2<j:=by
 unfold turnsOf;rw[iy];constructor
 ·rintro ⟨i,hi,rfl⟩;rw[jq] at hi;exact⟨rfl,by simp only;omega,by simp only;omega⟩
 ·rintro ⟨rfl,h1,h2⟩;refine⟨t.2.toNat,jq.2 G,?_⟩;rw[qf h1]
theorem xN {ws:List (List Int)} {t:Int × Int}: ∀ {k:Nat},t∈fT ws k↔(0<=t.1/\t.1<k)/\0<=t.2/\t.2<(rdl ws t.1).length
 |0=>by
  constructor
  ·intro h;cases h
  ·rintro⟨h,_⟩;omega
 | k+1=>by
  show t∈fT ws k++turnsOf k (rdl ws k).length↔_;rw[gp,xN,wE];constructor
  ·rintro (⟨h1,h2⟩|⟨h1,h2,h3⟩)
   ·exact⟨⟨h1.1,G⟩,h2⟩
   ·rw[h1];exact⟨⟨G,G⟩,h2,h3⟩
  ·rintro ⟨h1,h2,h3⟩;by_cases e:t.1=k
   ·exact .inr ⟨e,h2,by rw[e] at h3;exact h3⟩
   ·exact .inl ⟨⟨h1.1,G⟩,h2,h3⟩
theorem xO {ws:List (List Int)} {t:Int × Int}:t∈fT ws ws.length↔TV ws t:=by
 rw[xN];unfold TV;constructor
 ·rintro⟨⟨a,b⟩,c,d⟩;exact⟨a,b,c,d⟩
 ·rintro⟨a,b,c,d⟩;exact⟨⟨a,b⟩,c,d⟩
theorem NZ (w:Int) (j:Nat):(turnsOf w j).Nodup:=by
 unfold turnsOf;refine iw.2 ((xc (n:=j)).imp λ{a b} h e=>h ?_);simp only[yl,Ak] at e;omega
theorem vI (ws:List (List Int)): ∀k,(fT ws k).Nodup
 |0=> .nil
 |k+1=>by
  refine xu.2 ⟨vI ws k,NZ _ _,λa ha b hb e=> ?_⟩;subst e;have h1:=(xN.1 ha).1;have h2:=(wE.1 hb).1;omega
theorem QR {ws:List (List Int)} {i j:Nat} (h:i<=j):nS ws i<=nS ws j:=by
 unfold nS;obtain⟨d,rfl⟩: ∃d,j=i+d:=⟨j-i,G⟩;rw[Hq,qg,ah];omega
theorem YK {ws:List (List Int)} {k:Nat} {i:Int} (h0:0<=i) (h:i<k):rd (rF ws k) i=nS ws i.toNat:=by
 have hi:i.toNat<k:=G
 simp[rd,rF,ai,hi]
theorem bAh {ws:List (List Int)} {w j:Int} (h0:0<=w) (h1:w<ws.length) (h2:0<=j) (h3:j<(rdl ws w).length):rd ws.flatten (nS ws w.toNat+j)=rd (rdl ws w) j:=by
 have e:ws.flatten=(ws.take w.toNat).flatten++(ws.drop w.toNat).flatten:=by
  rw[<-qg,gu]
 rw[e,aSq h0 h1,si];unfold rd;rw[ai,ig (by unfold nS;omega),ji (by unfold nS;omega),ai];congr 2;unfold nS;omega
theorem UH {ws:List (List Int)} {t:Int × Int} (ht:TV ws t):iC (rF ws ws.length) t=nS ws t.1.toNat+t.2:=by
 unfold iC;rw[YK ht.1 ht.2.1]
theorem aTa {ws:List (List Int)} {t u:Int × Int} (ht:TV ws t) (hu:TV ws u) (h:iC (rF ws ws.length) t=iC (rF ws ws.length) u):t=u:=by
 rw[UH ht,UH hu] at h;obtain⟨a1,a2,a3,a4⟩:=ht;obtain⟨b1,b2,b3,b4⟩:=hu;have o1:=jV a1 a2;have o2:=jV b1 b2
 have e:t.1=u.1:=by
  rcases jd t.1 u.1 with x|x|x
  ·have:=QR (ws:=ws) (show(t.1+1).toNat<=u.1.toNat by omega);omega
  ·exact x
  ·have:=QR (ws:=ws) (show(u.1+1).toNat<=t.1.toNat by omega);omega
 rw[e] at h;exact Prod.ext e G
theorem bDd {ws:List (List Int)} (hN:ws.flatten.length<=1000000) {t:Int × Int} (ht:TV ws t):TOk ws (rF ws ws.length) ws.flatten.length t:=by
 obtain⟨a1,a2,a3,a4⟩:=ht;have o1:=jV a1 a2;have o2:=IR ws (t.1+1).toNat;have e:=YK (ws:=ws) a1 a2;have hb:=SE ws ws.length;refine⟨⟨a1,a2,G⟩,⟨a3,a4,G⟩,G,?_⟩;rw[e];omega
theorem aRw (ws:List (List Int)):RK ws (rF ws ws.length) 1 ws.flatten:=by
 intro t u ht hu
 have one: ∀t,TV ws t->rd ws.flatten (iC (rF ws ws.length) t)=tw ws t 0:=by
  intro t ht;rw[UH ht,bAh ht.1 ht.2.1 ht.2.2.1 ht.2.2.2];obtain⟨a1,a2,a3,a4⟩:=ht;unfold tw rd;rw[qm,lc G]
 rw[one t ht,one u hu];constructor
 ·constructor
  ·exact λh=>⟨0,G,λi hi=>G,h⟩
  ·rintro ⟨k,hk,_,h⟩;obtain rfl:k=0:=G
   exact h
 ·constructor
  ·intro h i hi;obtain rfl:i=0:=G
   exact h
  ·exact λh=>h 0 G
theorem aQs {ws:List (List Int)} (t:Int × Int):Per (tw ws t) (rdl ws t.1).length:=by
 intro i;unfold tw;rw[<-mr,Nat.add_mod_right]
def jB (ws:List (List Int)) (t u:Int × Int):Prop:=Lt (tw ws t) (tw ws u)\/(∀i,tw ws t i=tw ws u i)/\ltI t u
theorem aTh {ws:List (List Int)} {M:Nat} {t u:Int × Int} (hM:EqH M (tw ws t) (tw ws u)-> ∀i,tw ws t i=tw ws u i):aTk ws M t u↔jB ws t u:=by
 unfold aTk jB;constructor
 ·rintro (⟨k,_,h1,h2⟩|⟨e,h⟩)
  ·exact .inl ⟨k,h1,h2⟩
  ·exact .inr ⟨hM e,h⟩
 ·rintro (⟨k,h1,h2⟩|⟨e,h⟩)
  ·rcases tri M (tw ws t) (tw ws u) with a|a|⟨m,_,g1,g2⟩
   ·exact .inl a
   ·have:=hM a k;omega
   ·exfalso;by_cases x:k<m
    ·have:=g1 k x;omega
    ·by_cases y:m<k
     ·have:=h1 m y;omega
     ·have:k=m:=G
      subst this;omega
  ·exact .inr ⟨λi _=>e i,h⟩
theorem aAq {ws:List (List Int)} {M:Nat} {t u:Int × Int} (ht:TV ws t) (hu:TV ws u) (hM:(rdl ws t.1).length+(rdl ws u.1).length<=M) (h:EqH M (tw ws t) (tw ws u)): ∀i,tw ws t i=tw ws u i:=by
 obtain⟨a1,a2,a3,a4⟩:=ht;obtain⟨b1,b2,b3,b4⟩:=hu;exact agree G G (aQs t) (aQs u) λi hi=>h i G
theorem aAp {ws:List (List Int)} {h:Int} (h0:0<h) (gv: ∀t u,TV ws t->TV ws u->EqH (mY h) (tw ws t) (tw ws u)->EqH (gH h) (tw ws t) (tw ws u)) {t u:Int × Int} (ht:TV ws t) (hu:TV ws u) (he:EqH (mY h) (tw ws t) (tw ws u)): ∀i,tw ws t i=tw ws u i:=by
 have e1:mY h=h.toNat:=by unfold mY;omega
 have e2:gH h=h.toNat+h.toNat:=by unfold gH;rw[bu G];omega
 rw[e1,e2] at gv;rw[e1] at he;intro i
 induction i using Nat.strongRecOn generalizing t u with
 | _ i ih=>
  by_cases hi:i<h.toNat
  ·exact he i hi
  ·have h2:=(aJg.1 (gv t u ht hu he)).2;have f1:(λi=>tw ws t (i+h.toNat))=tw ws (sh ws t h):=funext λi=>(PO ht G i).symm;have f2:(λi=>tw ws u (i+h.toNat))=tw ws (sh ws u h):=funext λi=>(PO hu G i).symm;rw[f1,f2] at h2;have:=ih (i-h.toNat) G (aHu ht) (aHu hu) h2;rw[PO ht G,PO hu G,qy G] at this;exact this
theorem dH {l:List Int} {j:Int} (h0:0<=j) (h:j<l.length):l.take (j+1).toNat=l.take j.toNat++[rd l j]:=by
 have hl:j.toNat<l.length:=G
 rw[show(j+1).toNat=j.toNat+1 by omega,su,av hl];simp[rd,ai,av hl]
theorem bBm (t u:Int × Int):ltI t u\/t=u\/ltI u t:=by
 unfold ltI;rcases jd t.1 u.1 with a|a|a
 ·exact .inl (.inl a)
 ·rcases jd t.2 u.2 with b|b|b
  ·exact .inl (.inr ⟨a,b⟩)
  ·exact .inr (.inl (Prod.ext a b))
  ·exact .inr (.inr (.inr ⟨a.symm,b⟩))
 ·exact .inr (.inr (.inl a))
theorem Sorted.toO {ws:List (List Int)} {M:Nat} {l:List (Int × Int)} (s:Sorted ws M l) (hM: ∀t u,TV ws t->TV ws u->EqH M (tw ws t) (tw ws u)-> ∀i,tw ws t i=tw ws u i):l.Pairwise (jB ws):=by
 refine(s.pw.and s.nodup).imp_of_mem λ{x y} hx hy h=> ?_;have Py:=aTh (hM x y (s.tv x hx) (s.tv y hy));rw[<-Py];rcases tri M (tw ws x) (tw ws y) with a|a|a
 ·exact .inl a
 ·rcases bBm x y with b|b|b
  ·exact .inr ⟨a,b⟩
  ·exact absurd b h.2
  ·exact absurd (.inr ⟨a.symm,b⟩) h.1
 ·exact absurd (.inl a) h.1
theorem stay {ws:List (List Int)} {bs rs:List Int} {h w:Int} {l lo:List (Int × Int)} (h0:0<h) (hr:RK ws bs (mY h) rs) (s:Sorted ws (gH h) l) (ju: ∀t,TV ws t->t∈l) (hp:l.Perm lo) (st:Steps bs rs lo w) (hw:iI ws bs rs h l (l.length-1)=w):l.Pairwise (jB ws):=by
 have Pd:mY h<=gH h:=by unfold mY gH;rw[bu G];omega
 refine s.toO λt u ht hu e=>aAp h0 (λt u ht hu e=> ?_) ht hu (e.mono Pd);obtain⟨i,hi,rfl⟩:=gz.1 (ju t ht);obtain⟨j,hj,rfl⟩:=gz.1 (ju u hu);rw[<-oG hi,<-oG hj] at e ⊢;exact bBa h0 hr s hp st hw hi hj e
theorem XB {l:List (Int × Int)} {j:Int} (h0:0<=j) (h:j<l.length):l.take (j+1).toNat=l.take j.toNat++[rdp l j]:=by
 have hl:j.toNat<l.length:=G
 rw[show(j+1).toNat=j.toNat+1 by omega,su,av hl];simp[rdp,ai,av hl]
theorem EM {α:Type} {r:α->α->Prop} (Ma: ∀x y,r x y-> ¬r y x): ∀ {a b:List α},a.Perm b->a.Pairwise r->b.Pairwise r->a=b
 |[],b,h,_,_=>(List.nil_perm.1 h).symm
 |x::a,[],h,_,_=>absurd h.symm cD
 | x::a,y::b,h,ha,hb=>by
  have e:x=y:=by
   rcases jm.1 (h.mem_iff.1 (.head _)) with e|e
   ·exact e
   ·have h1:=(jb.1 hb).1 x e;rcases jm.1 (h.mem_iff.2 (.head _)) with e2|e2
    ·exact e2.symm
    ·exact absurd h1 (Ma _ _ ((jb.1 ha).1 y e2))
  subst e;rw[EM Ma ((List.perm_cons x).1 h) (jb.1 ha).2 (jb.1 hb).2]
end Go.Pure
namespace Go.Pure
open Go Go.Eng
theorem bAv {w:List Int} {i:Nat} (hi:i<w.length) (j:Nat):om (w.drop i++w.take i) j=w.getD ((i+j)%w.length) 0:=by
 have hl:(w.drop i++w.take i).length=w.length:=by rw[ah,ay,ax];omega
 have hm:=yw j (show 0<w.length by omega);unfold om;rw[hl,ai,ai];congr 1;have e:(i+j)%w.length=(i+j%w.length)%w.length:=by rw[Nat.add_mod_mod]
 rw[e];clear e;generalize j%w.length=r at hm ⊢;by_cases h:r<w.length-i
 ·have e2:(i+r)%w.length=i+r:=lc G;rw[ji (by rw[ay];exact h),ql,e2]
 ·have e2:(i+r)%w.length=i+r-w.length:=by rw[zk G,lc G]
  rw[ig (by rw[ay];omega),ay,ny,df G,e2];congr 1;omega
theorem bDw {ws:List (List Int)} {t:Int × Int} (ht:TV ws t) (j:Nat):om ((rdl ws t.1).drop t.2.toNat++(rdl ws t.1).take t.2.toNat) j=tw ws t j:=by
 obtain⟨a,b,c,d⟩:=ht;rw[bAv G];rfl
end Go.Pure
namespace Go.Pure
open Go Go.Eng
variable {ws:List (List Int)} {l:List (Int × Int)} {j:Nat}
theorem Lt.of_H {H:Nat} {U V:Nat->Int} (h:LtH H U V):Lt U V:=by
 obtain⟨k,_,r⟩:=h;exact⟨k,r⟩
theorem EP (U V:Nat->Int):Lt U V\/(∀i,U i=V i)\/Lt V U:=by
 by_cases h: ∀i,U i=V i
 ·exact .inr (.inl h)
 ·obtain ⟨k,hk⟩:=Eh.1 h;rcases tri (k+1) U V with a|a|a
  ·exact .inl (Lt.of_H a)
  ·exact absurd (a k G) hk
  ·exact .inr (.inr (Lt.of_H a))
theorem Lt.asymm {U V:Nat->Int} (h:Lt U V): ¬Lt V U:=by
 obtain⟨k,h1,hl⟩:=h;rintro⟨m,h2,vu⟩;by_cases a:k<m
 ·have:=h2 k a;omega
 ·by_cases b:m<k
  ·have:=h1 m b;omega
  ·have:k=m:=G
   subst this;omega
theorem Lt.not_eq {U V:Nat->Int} (h:Lt U V): ¬ ∀i,U i=V i:=λe=>by
 obtain⟨k,_,hl⟩:=h;have:=e k;omega
theorem ZE {t u:Int × Int} (h: ¬Lt (tw ws t) (tw ws u)) (hi:ltI u t):jB ws u t:=by
 rcases EP (tw ws u) (tw ws t) with a|a|a
 ·exact .inl a
 ·exact .inr ⟨a,hi⟩
 ·exact absurd a h
theorem aEk (t u:Int × Int) (h:jB ws t u): ¬jB ws u t:=by
 rcases h with h|⟨e,h⟩
 ·rintro (g|⟨e,g⟩)
  ·exact h.asymm g
  ·exact h.not_eq λi=>(e i).symm
 ·rintro (g|⟨e',g⟩)
  ·exact g.not_eq λi=>(e i).symm
  ·unfold ltI at h g;omega
theorem LF {t u v:Int × Int} (h:jB ws t u) (g:jB ws u v):jB ws t v:=by
 rcases h with⟨k,h1,hl⟩|⟨e,h⟩
 ·rcases g with g|⟨e',_⟩
  ·exact .inl (Lt.trans ⟨k,h1,hl⟩ g)
  ·exact .inl ⟨k,λi hi=>(h1 i hi).trans (e' i),by rw[<-e' k];exact hl⟩
 ·rcases g with⟨k,h1,hl⟩|⟨e',g⟩
  ·exact .inl ⟨k,λi hi=>(e i).trans (h1 i hi),by rw[e k];exact hl⟩
  ·exact .inr ⟨λi=>(e i).trans (e' i),by unfold ltI at*;omega⟩
theorem aFe {x:Int × Int} {j:Nat} (hp:l.Pairwise (jB ws)) (h1: ∀y∈l.take j,jB ws y x) (h2: ∀y∈l.drop j,jB ws x y):(l.take j++[x]++l.drop j).Pairwise (jB ws):=by
 have hs:(l.take j++l.drop j).Pairwise (jB ws):=by rw[gu];exact hp
 obtain⟨a,b,c⟩:=kz.1 hs;refine kz.2 ⟨kz.2 ⟨a,qa _ _,λy hy z hz=> ?_⟩,b,λy hy z hz=> ?_⟩
 ·obtain rfl:=ib.1 hz;exact h1 y hy
 ·rcases gp.1 hy with hy|hy
  ·exact c y hy z hz
  ·obtain rfl:=ib.1 hy;exact h2 z hz
theorem ZZ {α:Type} {l:List α} {x:α}:(l.take j++[x]++l.drop j).Perm (l++[x]):=by
 have h:(l.take j++[x]++l.drop j).Perm (l.take j++l.drop j++[x]):=by
  rw[gy,gy];exact Bc _ yc
 rwa[gu] at h
theorem aPu {x:Int × Int} {j:Int} (hp:l.Pairwise (jB ws)) (h0:0<j) (hj:j<=l.length) (h:jB ws (rdp l (j-1)) x): ∀y∈l.take j.toNat,jB ws y x:=by
 intro y hy;obtain⟨i,hi,rfl⟩:=gz.1 hy;rw[ax] at hi;rw[ym];have rv:(j-1).toNat<l.length:=G
 have e:rdp l (j-1)=l[(j-1).toNat]:=by
  unfold rdp;rw[ai,av rv];rfl
 rw[e] at h;rcases fe i (j-1).toNat with a|a
 ·exact LF (dn.1 hp i (j-1).toNat G rv a) h
 ·have:i=(j-1).toNat:=G
  subst this;exact h
theorem aBt {t u:Int × Int} (ht:TV ws t) (hu:TV ws u):MZ ((rdl ws t.1).drop t.2.toNat++(rdl ws t.1).take t.2.toNat) ((rdl ws u.1).drop u.2.toNat++(rdl ws u.1).take u.2.toNat)<0↔Lt (tw ws t) (tw ws u):=by
 have e1:om ((rdl ws t.1).drop t.2.toNat++(rdl ws t.1).take t.2.toNat)=tw ws t:=funext (bDw ht);have e2:om ((rdl ws u.1).drop u.2.toNat++(rdl ws u.1).take u.2.toNat)=tw ws u:=funext (bDw hu)
 have l1:0<((rdl ws t.1).drop t.2.toNat++(rdl ws t.1).take t.2.toNat).length:=by
  obtain⟨a,b,c,d⟩:=ht;rw[ah,ay,ax];omega
 have l2:0<((rdl ws u.1).drop u.2.toNat++(rdl ws u.1).take u.2.toNat).length:=by
  obtain⟨a,b,c,d⟩:=hu;rw[ah,ay,ax];omega
 rw[aXi l1 l2,e1,e2]
end Go.Pure
