/- Own work. -/
import Derived.WalkKit
import Derived.Maps.AppendAt
import Derived.Deep.LoopGhost
import Derived.Orders
import Derived.OrdersIn
import Derived.TacticsIn
import Derived.Sort.LoopGhostIn
import Derived.Laws.BytesArg
import Derived.Lib.ConvBytes
import Derived.Laws.MakeOwn
import Derived.Laws.OwnMore
import Derived.Laws.Slices
import Derived.OrdersHeld
import Derived.Test.YtdbebmmhdefgdaaGreatProg
import Derived.KernelRfl
import Derived.ProofKit
import Derived.OpenShut
import Derived.Laws.LoneSync
import Derived.Deep.Matrix
import Derived.Laws.Rows
import Derived.SizedLaws
import Derived.Shelf.SlSortCmp.WholeK
set_option linter.unusedVariables false
set_option linter.unusedSimpArgs false
set_option maxHeartbeats 8000000
namespace Go
abbrev aa:=@Go.Proofs.Tryz.underlying52
abbrev af.{u}:=@List.getD_eq_getElem?_getD.{u}
abbrev ah:=@Go.Proofs.Tryz.underlying22
abbrev ai.{u}:=@List.length_append.{u}
abbrev ak:=@Nat.le_of_ble_eq_true
abbrev au:=@Go.Proofs.Tryz.underlying3
abbrev av.{u}:=@List.getElem?_eq_getElem.{u}
abbrev ax.{u}:=@List.length_take.{u}
abbrev ay:=@Go.Proofs.Tryz.underlying23
abbrev az.{u,v}:=@List.length_map.{u,v}
abbrev bg.{u,v}:=@congrArg.{u,v}
abbrev bi.{u}:=@List.take_of_length_le.{u}
abbrev bn.{u}:=@List.length_drop.{u}
abbrev bq:=@Int.toNat_natCast
abbrev bu:=@Int.lt_or_le
abbrev bz:=@Go.Proofs.Tryz.underlying27
abbrev cz.{u}:=@List.length_replicate.{u}
abbrev df.{u}:=@if_neg.{u}
abbrev dh:=@Go.Proofs.Tryz.underlying5
abbrev di.{u}:=@if_pos.{u}
abbrev dm.{u}:=@List.length_cons.{u}
abbrev dn:=@Nat.le_refl
abbrev dw:=@Go.Proofs.Tryz.underlying87
abbrev dx.{u}:=@List.eq_nil_of_length_eq_zero.{u}
abbrev dz.{u}:=@List.pairwise_iff_getElem.{u}
abbrev ed:=@Go.Proofs.Tryz.underlying25
abbrev ek.{u}:=@List.append_assoc.{u}
abbrev fe:=@Nat.eq_zero_or_pos
abbrev fo.{u}:=@List.mem_append.{u}
abbrev fw.{u}:=@List.mem_cons_of_mem.{u}
abbrev gm.{u}:=@List.getElem?_eq_some_iff.{u}
abbrev gp.{u}:=@Array.getElem?_eq_some_iff.{u}
abbrev gq.{u}:=@List.mem_of_getElem?.{u}
abbrev gu:=@Nat.lt_or_ge
abbrev gy:=@Go.Proofs.Tryz.underlying112
abbrev gz.{u,v}:=@List.mem_map.{u,v}
abbrev ib.{u,v}:=@List.pairwise_map.{u,v}
abbrev ic.{u}:=@List.mem_iff_getElem.{u}
abbrev ig.{u}:=@List.nil_append.{u}
abbrev ii.{u}:=@List.length_singleton.{u}
abbrev ik.{u}:=@List.take_append_drop.{u}
abbrev il.{u}:=@List.pairwise_cons.{u}
abbrev iv:=@decide_eq_true_iff
abbrev iw.{u}:=@List.mem_cons.{u}
abbrev iy.{u,v}:=@Option.map_eq_some_iff.{u,v}
abbrev ja.{u}:=@List.cons_append.{u}
abbrev jb.{u}:=@List.mem_singleton.{u}
abbrev jc.{u,v}:=@List.map_append.{u,v}
abbrev jd.{u}:=@Option.some.inj.{u}
abbrev je:=@Int.lt_trichotomy
abbrev jf.{u}:=@List.getElem?_append_left.{u}
abbrev jg.{u}:=@List.length_nil.{u}
abbrev jh.{u}:=@List.getElem?_append_right.{u}
abbrev ji.{u}:=@List.append_nil.{u}
abbrev jk:=@Go.Proofs.Tryz.underlying253
abbrev jl:=@Go.Sem.run_bind
abbrev jm:=@List.mem_range
abbrev jo:=@Go.Result.andThen_ok
abbrev jq.{u,v}:=@List.map_cons.{u,v}
abbrev jr.{u}:=@Array.length_toList.{u}
abbrev jv:=@Go.Value.slice.injEq
abbrev jw:=@Go.Proofs.Tryz.underlying230
abbrev jy.{u,v}:=@Option.map_some.{u,v}
abbrev kg.{u}:=@List.filter_cons_of_neg.{u}
abbrev ko:=@decide_eq_true
abbrev ku.{u}:=@List.Pairwise.imp_of_mem.{u}
abbrev kv.{u,v}:=@List.getElem?_map.{u,v}
abbrev ky.{u}:=@List.getElem_mem.{u}
abbrev kz.{u}:=@List.drop_eq_getElem_cons.{u}
abbrev lc:=@Int.toNat_of_nonneg
abbrev lh.{u}:=@List.length_reverse.{u}
abbrev ll.{u}:=@List.mem_of_mem_take.{u}
abbrev lm.{u}:=@List.getElem?_eq_none.{u}
abbrev lq:=@Int.le_refl
abbrev lu.{u}:=@List.flatten_append.{u}
abbrev lv.{u}:=@Option.some.injEq.{u}
abbrev mf:=@Nat.mod_eq_of_lt
abbrev mg:=@Nat.zero_add
abbrev mh.{u}:=@List.flatten_cons.{u}
abbrev mo:=@Go.run_underlying
abbrev mr.{u}:=@List.mem_filter.{u}
abbrev ng.{u}:=@List.mem_of_mem_drop.{u}
abbrev ni.{u}:=@List.filter_cons_of_pos.{u}
abbrev nk.{u}:=@Array.getElem?_eq_getElem.{u}
abbrev nu:=@Go.Sem.run_pure
abbrev ny.{u}:=@List.singleton_append.{u}
abbrev nz.{u}:=@List.sublist_flatten_of_mem.{u}
abbrev og:=@Int.mul_le_mul_of_nonneg_right
abbrev oh.{u}:=@Option.getD_some.{u}
abbrev ol:=@decide_eq_false
abbrev oq:=@Go.Proofs.Tryz.underlying352
abbrev ou:=@Go.Proofs.Tryz.underlying360
abbrev ow.{u}:=@List.pairwise_append.{u}
abbrev oz:=@Go.Proofs.Tryz.underlying269
abbrev pg.{u}:=@List.getElem?_take.{u}
abbrev pq.{u}:=@List.length_flatten.{u}
abbrev pu:=@Go.Proofs.Tryz.underlying256
abbrev pz:=@Bool.and_eq_true
abbrev qa.{u}:=@List.take_length.{u}
abbrev qb.{u}:=@List.size_toArray.{u}
abbrev qc.{u}:=@List.take_add_one.{u}
abbrev qd.{u}:=@Array.getElem?_toList.{u}
abbrev qf:=@Nat.add_zero
abbrev qg:=@Nat.mul_one
abbrev qh:=@Nat.zero_le
abbrev qi:=@Nat.add_assoc
abbrev qj:=@Int.emod_eq_of_lt
abbrev ql.{u}:=@List.Sublist.length_le.{u}
abbrev qm.{u}:=@List.drop_of_length_le.{u}
abbrev qo.{u,v}:=@List.map_nil.{u,v}
abbrev qp.{u,v,w}:=@getElem!_pos.{u,v,w}
abbrev qw.{u}:=@List.getElem?_take_of_lt.{u}
abbrev qx:=@Nat.sub_add_cancel
abbrev qy:=@Go.Proofs.Tryz.underlying228
abbrev qz:=@Go.Proofs.Tryz.underlying281
abbrev rf.{u}:=@List.perm_append_comm.{u}
abbrev rq.{u,v,w}:=@List.map_map.{u,v,w}
abbrev ry:=@Nat.le_trans
abbrev rz.{u}:=@List.pairwise_singleton.{u}
abbrev si:=@Go.Proofs.Tryz.underlying250
abbrev sj.{u}:=@List.filter_append.{u}
abbrev su.{u}:=@List.getElem?_drop.{u}
abbrev sw.{u}:=@List.ext_getElem.{u}
abbrev tq.{u,v}:=@List.map_toArray.{u,v}
abbrev uf.{u}:=@List.mem_flatten.{u}
abbrev ug.{u}:=@List.sum_cons.{u}
abbrev uh.{u}:=@List.append_toArray.{u}
abbrev ui.{u}:=@List.filter_sublist.{u}
abbrev uj.{u}:=@List.ext_getElem?.{u}
abbrev uk:=@decide_eq_false_iff_not
abbrev ul:=@Nat.mul_le_mul_right
abbrev um:=@Int.mul_assoc
abbrev uo:=@Go.Proofs.Tryz.underlying279
abbrev uq.{u}:=@List.not_mem_nil.{u}
abbrev ut:=@Nat.add_comm
abbrev uu.{u}:=@Array.toList_append.{u}
abbrev uy.{u}:=@Array.getElem?_modify.{u}
abbrev uz:=@Int.pow_nonneg
abbrev ve.{u}:=@List.nodup_cons.{u}
abbrev vg:=@Bool.false_eq_true
abbrev vk:=@Int.emod_lt_of_pos
abbrev vo.{u}:=@Array.replicate_succ.{u}
abbrev vv.{u}:=@Array.replicate_zero.{u}
abbrev vw.{u}:=@List.all_eq_true.{u}
abbrev vz:=@List.nodup_range
abbrev wh:=@decide_eq_decide
abbrev wo:=@Go.Proofs.Tryz.underlying9
abbrev wu:=@Go.Proofs.Tryz.underlying123
abbrev ww:=@Int.pow_zero
abbrev wz.{u}:=@List.getElem?_set.{u}
abbrev xc.{u}:=@List.nodup_append.{u}
abbrev xe:=@Nat.lt_trichotomy
abbrev xg.{u}:=@if_false.{u}
abbrev xh.{u,v}:=@List.map_congr_left.{u,v}
abbrev xk.{u}:=@List.Perm.append_left.{u}
abbrev xm.{u}:=@List.length_filter_le.{u}
abbrev xq:=@Nat.eq_of_beq_eq_true
abbrev xu.{u,v}:=@List.getElem_map.{u,v}
abbrev xw.{u}:=@List.mem_reverse.{u}
abbrev xx:=@Int.pow_succ
abbrev xz:=@Nat.sub_zero
abbrev yc:=@Go.Proofs.Tryz.underlying117
abbrev yf:=@Go.Proofs.Tryz.underlying84
abbrev yg:=@Nat.add_mul
abbrev yh:=@Decidable.not_not
abbrev yj.{u}:=@List.drop_sublist.{u}
abbrev yl.{u}:=@List.getElem?_replicate.{u}
abbrev ym.{u}:=@List.getElem_take.{u}
abbrev yo:=@List.length_range
abbrev yt.{u}:=@List.push_toArray.{u}
abbrev yu:=@of_decide_eq_true
abbrev yw:=@Int.emod_nonneg
abbrev yx:=@Nat.mod_lt
abbrev yz:=@List.getElem?_range
abbrev za.{u}:=@Array.getD_eq_getD_getElem?.{u}
abbrev zb.{u}:=@List.drop_eq_nil_of_le.{u}
abbrev ze:=@Int.natCast_emod
abbrev zf:=@List.getElem_range
abbrev zg.{u}:=@List.take_zero.{u}
abbrev zh:=@Go.Proofs.Tryz.underlying167
abbrev zi:=@Int.ediv_lt_of_lt_mul
abbrev zk:=@List.range_succ
abbrev zl:=@Nat.min_eq_left
abbrev zm:=@Int.add_zero
abbrev zo:=@Int.pow_add
abbrev zq.{u,v}:=@List.flatMap_cons.{u,v}
abbrev zt:=@Nat.mul_comm
abbrev zu:=@Go.Proofs.Tryz.zeroValue167
abbrev zw:=@decide_eq_true_eq
abbrev zx:=@Go.run_sliceAt_slice
abbrev zy:=@true_and
abbrev zz.{u,v}:=@Prod.mk.injEq.{u,v}
abbrev Aa:=@Go.Proofs.Tryz.underlying146
abbrev Ab:=@Int.mul_nonneg
abbrev Ad.{u}:=@List.length_eq_zero_iff.{u}
abbrev Ae.{u,v}:=@List.mem_flatMap.{u,v}
abbrev Af:=@Go.Proofs.Tryz.underlying3
abbrev Ag:=@and_true
abbrev Ah:=@Go.wpIn_mono
abbrev Ai:=@Int.le_ediv_iff_mul_le
abbrev Aj:=@Int.lt_or_eq_of_le
abbrev Ak:=@Nat.mod_eq_sub_mod
abbrev Al.{u}:=@Option.toList_some.{u}
abbrev Am:=@Go.Proofs.Tryz.underlying112
abbrev Ao:=@Go.Proofs.Tryz.underlying123
abbrev Ap.{u}:=@Array.getElem?_setIfInBounds.{u}
abbrev Ar:=@Bool.or_eq_true
abbrev Av:=@Int.natCast_mul
abbrev Az.{u,v}:=@Option.map_none.{u,v}
abbrev Ba:=@Go.Proofs.Tryz.zeroValue3
abbrev Bb:=@Go.Addr.mk.injEq
abbrev Bc:=@Go.callsIn_of_wp
abbrev Be.{u}:=@Array.getElem?_append.{u}
abbrev Bf.{u}:=@List.attach_map_subtype_val.{u}
abbrev Bg:=@Go.Proofs.Tryz.zeroValue112
abbrev Bh:=@Go.Proofs.Tryz.zeroValue123
abbrev Bi:=@Int.fdiv_eq_ediv_of_nonneg
abbrev Bj:=@Int.mul_one
abbrev Bl:=@Go.Proofs.Tryz.sizeOf167
abbrev Bn:=@Go.Proofs.Tryz.underlying4
abbrev Bo:=@Int.natCast_zero
abbrev Bp:=@Go.IntKind.wrap_i64
abbrev Bq:=@Nat.le_add_right
abbrev Br:=@Nat.succ_mul
abbrev Bt:=@Go.Proofs.Tryz.underlying0
abbrev Bu:=@Go.Proofs.Tryz.underlying4
abbrev Bv:=@Go.Proofs.Tryz.underlying5
abbrev Bw:=@Go.Proofs.Tryz.underlying9
abbrev Bz.{u}:=@List.countP_eq_zero.{u}
abbrev Ca.{u}:=@List.filter_eq_self.{u}
abbrev Cb.{u,v}:=@List.flatMap_append.{u,v}
abbrev Cc.{u}:=@List.getElem_set_ne.{u}
abbrev Ce.{u}:=@List.eq_of_mem_replicate.{u}
abbrev Cf.{u}:=@List.length_erase_of_mem.{u}
abbrev Cg.{u,v}:=@List.map_take.{u,v}
abbrev Ch:=@Go.Proofs.Tryz.isAgg167
abbrev Ci:=@UInt8.toNat_ofNat_of_lt'
abbrev Cj:=@Go.Proofs.Tryz.underlying114
abbrev Ck:=@Go.Proofs.Tryz.underlying167
abbrev Cm:=@Go.Proofs.Tryz.underlying248
abbrev Cn.{u}:=@List.sum_append.{u}
abbrev Co:=@Go.Result.ok.injEq
abbrev Cq:=@Go.Proofs.Tryz.zeroValue0
abbrev Cr:=@Go.Proofs.Tryz.zeroValue4
abbrev Cs:=@Go.Proofs.Tryz.zeroValue5
abbrev Cu:=@Go.Proofs.Tryz.zeroValue9
abbrev Cv:=@BitVec.toNat_ofInt
abbrev Cw.{u}:=@List.mem_replicate.{u}
abbrev Cx:=@Nat.lt_or_gt_of_ne
abbrev Cy:=@Nat.mul_div_cancel
abbrev Cz:=@Go.Proofs.Tryz.underlying288
abbrev Da:=@Go.Proofs.Tryz.underlying289
abbrev Db:=@Go.Proofs.Tryz.underlying316
abbrev Dc:=@Go.Proofs.Tryz.underlying320
abbrev De:=@Go.Proofs.Tryz.underlying337
abbrev Dg:=@Go.Proofs.Tryz.underlying338
abbrev Dh.{u}:=@List.getElem?_cons_succ.{u}
abbrev Di:=@Nat.one_mul
abbrev Dj.{u,v}:=@Option.bind_eq_some_iff.{u,v}
abbrev Dk.{u}:=@List.set_eq_take_append_cons_drop.{u}
abbrev Dl.{u}:=@Array.getElem?_eq_none.{u}
abbrev Dm:=@Int.le_of_lt
abbrev Dn:=@Int.mul_comm
abbrev Dp.{u}:=@List.Perm.append_right.{u}
abbrev Dq.{u}:=@List.getElem_drop.{u}
abbrev Dr.{u}:=@List.isEmpty_cons.{u}
abbrev Dt.{u}:=@List.length_pos_of_mem.{u}
abbrev Du.{u}:=@List.reverse_perm.{u}
abbrev Dv.{u}:=@List.take_left.{u}
abbrev Dw:=@Nat.le_mul_of_pos_left
abbrev Dx:=@Nat.mul_le_mul
abbrev Dy:=@Nat.sub_self
abbrev Dz:=@Nat.zero_mul
abbrev Ea:=@Go.Proofs.Tryz.sizeOf112
abbrev Eb:=@Go.Proofs.Tryz.sizeOf123
abbrev Ec:=@Go.Proofs.Tryz.sizeOf3
abbrev Ed:=@Go.Proofs.Tryz.underlying97
abbrev Ee:=@Go.Proofs.Tryz.zeroValue288
abbrev Ef:=@Go.Proofs.Tryz.zeroValue289
abbrev Eg:=@Go.Proofs.Tryz.zeroValue316
abbrev Eh:=@Go.Proofs.Tryz.zeroValue320
abbrev Ei:=@Go.Proofs.Tryz.zeroValue337
abbrev Ej:=@Go.Proofs.Tryz.zeroValue338
abbrev El:=@not_false_eq_true
abbrev Em.{u}:=@List.replicate_append_replicate.{u}
abbrev En.{u}:=@List.countP_mono_left.{u}
abbrev Eo.{u}:=@List.pairwise_reverse.{u}
abbrev Ep.{u}:=@List.set_append_right.{u}
abbrev Er:=@Go.RowKit.Below.refl
abbrev Es:=@Int.ediv_le_self
abbrev Et.{u,v}:=@List.map_reverse.{u,v}
abbrev Eu:=@Nat.and_two_pow_sub_one_eq_mod
abbrev Ev:=@Nat.div_eq_of_lt
abbrev Ew:=@Go.Proofs.Tryz.zeroValue97
abbrev Ex:=@Bool.not_true
abbrev Ey.{u}:=@List.all_cons.{u}
abbrev Ez:=@Go.Proofs.Tryz.isAgg112
abbrev Fa:=@Go.Proofs.Tryz.isAgg123
abbrev Fb:=@Go.Proofs.Tryz.underlying185
abbrev Fe:=@Go.Proofs.Tryz.underlying232
abbrev Ff:=@Go.Proofs.Tryz.underlying350
abbrev Fg.{u,v}:=@Array.getElem_mapIdx.{u,v}
abbrev Fh.{u}:=@Classical.not_forall.{u}
abbrev Fj:=@Int.mul_le_mul_of_nonneg_left
abbrev Fp:=@Int.pow_pos
abbrev Fq.{u}:=@List.findIdx_getElem.{u}
abbrev Fs.{u}:=@List.getElem_reverse.{u}
abbrev Fu.{u}:=@List.mem_append_left.{u}
abbrev Fv.{u}:=@List.mem_erase_of_ne.{u}
abbrev Fw.{u}:=@List.replicate_succ'.{u}
abbrev Fx.{u}:=@List.reverse_reverse.{u}
abbrev Fy:=@Nat.pow_le_pow_right
abbrev Fz:=@Go.Proofs.Tryz.func36
abbrev Ga:=@Go.Proofs.Tryz.isAgg3
abbrev Gb:=@Int.ediv_nonneg
abbrev Gc:=@Int.natCast_pow
abbrev Gf.{u}:=@List.cons.injEq.{u}
abbrev Gg.{u}:=@List.drop_left'.{u}
abbrev Gh.{u}:=@List.length_set.{u}
abbrev Gi.{u}:=@List.take_left'.{u}
abbrev Gj.{u}:=@List.replicate_zero.{u}
abbrev Gl:=@Go.run_callFunc_extern
abbrev Gm.{u}:=@List.sum_nil.{u}
abbrev Gn:=@Nat.two_pow_add_eq_or_of_lt
abbrev Gp:=@Go.Proofs.Tryz.func158
abbrev Gq:=@Go.Proofs.Tryz.func159
abbrev Gr:=@Go.Proofs.Tryz.func161
abbrev Gs:=@Go.Proofs.Tryz.sizeOf0
abbrev Gt:=@Go.Proofs.Tryz.sizeOf4
abbrev Gu:=@Go.Proofs.Tryz.sizeOf5
abbrev Gv:=@Go.Proofs.Tryz.sizeOf9
abbrev Gw:=@Go.run_call_add
abbrev Gx.{u}:=@List.drop_left.{u}
abbrev Gy.{u}:=@List.set_cons_zero.{u}
abbrev Gz:=@Nat.add_sub_cancel
abbrev Ha:=@Nat.pos_of_ne_zero
abbrev Hd:=@Go.Proofs.Tryz.sizeOf288
abbrev He:=@Go.Proofs.Tryz.sizeOf289
abbrev Hf:=@Go.Proofs.Tryz.sizeOf316
abbrev Hg:=@Go.Proofs.Tryz.sizeOf320
abbrev Hl:=@Go.Proofs.Tryz.sizeOf337
abbrev Hm:=@Go.Proofs.Tryz.sizeOf338
abbrev Ho:=@Go.grownCap_le_maxLen
abbrev Hq:=@or_false
abbrev Hr.{u}:=@Array.all_eq_true.{u}
abbrev Ht.{u}:=@Array.getElem_mem.{u}
abbrev Hu.{u}:=@List.countP_congr.{u}
abbrev Hw.{u,v}:=@List.foldl_append.{u,v}
abbrev Hy.{u}:=@List.idxOf_append.{u}
abbrev Hz:=@Nat.add_mod_right
abbrev Ia:=@Nat.le_succ
abbrev Ib:=@Nat.mul_pos
abbrev Ic.{u}:=@Ne.symm.{u}
abbrev Ie:=@Go.Proofs.Tryz.func41
abbrev Ig:=@Go.Proofs.Tryz.func74
abbrev Ih:=@Go.Proofs.Tryz.func84
abbrev Ii:=@Go.Proofs.Tryz.func91
abbrev Ij:=@Go.Proofs.Tryz.isAgg0
abbrev Ik:=@Go.Proofs.Tryz.isAgg4
abbrev Il:=@Go.Proofs.Tryz.isAgg5
abbrev Im:=@Go.Proofs.Tryz.isAgg9
abbrev Io:=@Bool.false_or
abbrev Ip.{u,v}:=@List.map_drop.{u,v}
abbrev Iq.{u}:=@List.take_add.{u}
abbrev Ir:=@Go.Proofs.Tryz.isAgg288
abbrev Iu:=@Go.Proofs.Tryz.isAgg289
abbrev Iw:=@Go.Proofs.Tryz.isAgg316
abbrev Iy:=@Go.Proofs.Tryz.isAgg320
abbrev Iz:=@Go.Proofs.Tryz.isAgg337
abbrev Ja:=@Go.Proofs.Tryz.isAgg338
abbrev Jb:=@Go.Proofs.Tryz.sizeOf97
abbrev Jc:=@Go.Proofs.Tryz.underlying203
abbrev Jd:=@Go.IntKind.wrap_u64
abbrev Je.{u}:=@List.drop_length.{u}
abbrev Jf.{u}:=@List.flatten_nil.{u}
abbrev Jg:=@Int.le_trans
abbrev Jh:=@Int.sub_self
abbrev Ji:=@Int.sub_zero
abbrev Jj:=@Int.zero_mul
abbrev Jk:=@Nat.not_lt
abbrev Jl:=@Go.Proofs.Tryz.func114
abbrev Jm:=@Go.Proofs.Tryz.func130
abbrev Jn:=@Go.Proofs.Tryz.func134
abbrev Jo:=@Go.Proofs.Tryz.func149
abbrev Jp:=@Go.Proofs.Tryz.func192
abbrev Jq:=@Go.Proofs.Tryz.func194
abbrev Jr:=@Go.Proofs.Tryz.func251
abbrev Js:=@Go.Proofs.Tryz.func252
abbrev Jt:=@Go.Proofs.Tryz.func282
abbrev Ju:=@Go.Proofs.Tryz.func283
abbrev Jv:=@Go.Proofs.Tryz.isAgg97
abbrev Jw.{u}:=@if_true.{u}
abbrev Jy:=@Go.setRow_other
abbrev Ka:=@BitVec.toNat_or
abbrev Kb:=@Go.IntKind.wrap_u8
abbrev Ke:=@Int.add_mul
abbrev Kg:=@Int.mul_add
abbrev Kh:=@Nat.add_mod
abbrev Ki:=@Go.Proofs.Tryz.func16
abbrev Kj:=@Go.Proofs.Tryz.func19
abbrev Kk:=@Go.Proofs.Tryz.func51
abbrev Kl:=@Go.Proofs.Tryz.func68
abbrev Km:=@Go.setRow_heap
abbrev AD:=List (List Int)
abbrev AE:=List (Int × Int)
abbrev AF:=Option Addr
abbrev AG:=List Value
abbrev AH:=List Int
abbrev AI:=Array Bool
theorem G{p:Prop}(h:p:=by omega):p:=h
theorem cA{p:Prop}(h:p:=by kernel_rfl):p:=h
theorem cC{p:Prop}(h:p:=by decide):p:=h
theorem cD{p:Prop}(h:p:=by simp):p:=h
theorem cE{p:Prop}(h:p:=by first |assumption|omega|decide):p:=h
theorem cF{p:Prop}(h:p:=by assumption):p:=h
theorem cG{p:Prop}(h:p:=by simp;omega):p:=h
theorem cH{p:Prop}(h:p:=by first |omega|(dsimp only;omega)):p:=h
end Go
namespace Go.Eng
theorem Z.{u} {α:Sort u} {a:α}:a=a:=rfl
end Go.Eng
namespace Go.Eng
open Go Go.RowKit
abbrev Env:=List (Nat × Value)
def lk:Env->Nat->Option Value
 |[],_=>none
 |(k,v)::r,t=>bif Nat.beq k t then some v else lk r t
def ev (L:Env):Operand->Option Value
 | .tmp t=>lk L t
 | .const v=>some v
 | .global g=>some (.pointer (some ⟨g,0,none⟩))
 | .func f=>some (.func (.func f) #[] #[])
structure Nd where
 n:Nat
 ds:List Deferred
 rd:Option Nat:=none
def NF (rd:Option Nat):Fence:= {Fence.wide with round:=rd}
def BD (o:Oper):Bool:=match o.op with| .defer _=>false|_=>true
def BF:Option Nat->List Oper->Bool
 |none,_=>true
 |some _,l=>l.all BD
theorem aRk {P:Program} {rd:Option Nat} {o:Oper} {a:Act} {w:World} {K:Act->World->Prop} {Q:Exit->Act->World->Prop} (hd:rd=none\/BD o=true) (h:o.wp P a w K Q):o.wpIn (NF rd) 0 P a w K Q:=by
  refine⟨λ_ _=>trivial,?_⟩
  have e:o.semAt (NF rd).round a.eval=execOp a.eval o:=by
    rcases hd with rfl|hd
    · exact Oper.semAt_none _ _
    · exact Oper.semAt_eq _ _ _ (λc hc=>by simp[BD,hc] at hd)
  rw[e];unfold Oper.wp at h;generalize (execOp a.eval o).run P w=r at*;cases r with
  | ok x w'=>
    cases x<;>simp only[Oper.upon,Oper.uponIn] at h ⊢
    all_goals first
      |exact h
      |exact h.elim
      | (refine ⟨λh0=>(by cases h0),?_⟩
         exact callsIn_wide (n:=0).2 h)
      | (refine ⟨λh0=>(by cases h0),?_⟩
         intro c cs _;obtain⟨v,Ql,hR,hs⟩:=h c cs
         exact⟨v,Ql,hR,stepsIn_wide.2 hs⟩)
  |halt x w'=>cases x<;>simp only[Oper.upon,Oper.uponIn] at h ⊢ <;>exact h
theorem aCm {P:Program} {rd:Option Nat} {ops:Array Oper} {Q:Exit->Act->World->Prop} (hq: ¬LetsOut Q): ∀(l:List Oper) (a:Act) (w:World),BF rd l=true->wpList P ops Q l a w->wpListIn (NF rd) 0 P ops Q l a w
 |[],_,_,_,h=>h
 | o::l,a,w,hd,h=>by
  have Fk:rd=none\/BD o=true:=by
   cases rd with
   |none=>exact .inl rfl
   |some _=>simp only[BF,Ey,pz] at hd;exact .inr hd.1
  have Pe:BF rd l=true:=by
   cases rd with
   |none=>rfl
   |some _=>simp only[BF,Ey,pz] at hd;exact hd.2
  unfold wpList at h;unfold wpListIn;split
  ·rename_i hw;rw[di hw] at h;rcases h with h|h
   ·exact aRk Fk (Oper.wp_mono (λa w h=>aCm hq l a w Pe h) h)
   ·exact absurd h.2 hq
  ·rename_i hw;rw[df hw] at h;exact⟨λ_ _=>trivial,aCm hq l _ _ Pe h⟩
theorem aAb {P:Program} {rd:Option Nat} {ops:Array Oper} {Q:Exit->Act->World->Prop} (hq: ¬LetsOut Q) (hd:BF rd ops.toList=true): ∀(aq:Nat) (ab:AI) (a:Act) (w:World),wpAny P .any ops Q aq ab a w->wpAnyIn (NF rd) 0 P .any ops Q aq ab a w
 |0,_,_,_,h=>h
 | aq+1,ab,a,w,h=>by
  refine⟨h.1,λi hi=> ?_⟩;have h1:=h.2 i hi;unfold wpOp at h1;unfold wpOpIn;cases ho:ops[i]? with
  |none=>simp only[ho] at h1 ⊢;exact aAb hq hd aq _ _ _ h1
  | some o=>
   simp only[ho] at h1 ⊢
   have Fk:rd=none\/BD o=true:=by
    cases rd with
    |none=>exact .inl rfl
    |some _=>exact .inr (vw.1 hd o (Array.mem_toList_iff.2 (Array.mem_of_getElem? ho)))
   split
   ·rename_i hw;rw[di hw] at h1;rcases h1 with h1|h1
    ·exact aRk Fk (Oper.wp_mono (λa w h=>aAb hq hd aq _ a w h) h1)
    ·exact absurd h1.2 hq
   ·rename_i hw;rw[df hw] at h1;exact⟨λ_ _=>trivial,aAb hq hd aq _ _ _ h1⟩
instance:Coe Nd Nat:=⟨Nd.n⟩
instance:Coe Nat Nd:=⟨λn=>⟨n,[],none⟩⟩
structure Sat (n:Nd) (L:Env) (a:Act):Prop where
 size:a.tmps.size=n.n
 defers:a.defers=n.ds
 val: ∀t v,lk L t=some v->a.tmps[t]? =some v
theorem Sat.getD {n:Nd} {L:Env} {a:Act} (h:Sat n L a) {t:Nat} {v:Value} (hx:lk L t=some v):a.tmps.getD t undef=v:=by
 rw[za,h.val t v hx];rfl
theorem Sat.ev {n:Nd} {L:Env} {a:Act} (h:Sat n L a) {x:Operand} {v:Value} (hx:ev L x=some v):a.eval x=v:=by
 cases x with
 |tmp t=>exact h.getD hx
 |const u=>exact jd hx
 |global g=>exact jd hx
 |func f=>exact jd hx
theorem xO {L:Env} {k t:Nat} {v u:Value} (h:lk ((k,v)::L) t=some u):(k=t/\v=u)\/(k≠t/\lk L t=some u):=by
 unfold lk at h;cases hb:Nat.beq k t with
 |true=>rw[hb] at h;exact .inl ⟨xq hb,jd h⟩
 |false=>rw[hb] at h;exact .inr ⟨Nat.ne_of_beq_eq_false hb,h⟩
theorem Sat.put {n:Nd} {L:Env} {a:Act} (h:Sat n L a) {d:Nat} (hd:Nat.blt d n=true) (v:Value):Sat n ((d,v)::L) (a.put (some d) v):=by
 have hd':d<n:=ak hd;refine⟨by simp[Act.put,h.size],by simp[Act.put,h.defers],λt u hu=> ?_⟩;rcases xO hu with⟨rfl,rfl⟩|⟨cg,hl⟩
 ·simp[Act.put,h.size,hd']
 ·rw [<-h.val t u hl];simp[Act.put,cg]
def Sub (L1 L:Env):Prop:= ∀t v,lk L1 t=some v->lk L t=some v
theorem Sub.nil {L:Env}:Sub [] L:=λt v h=>by simp[lk] at h
theorem Sub.cons {L1 L:Env} {t:Nat} {v:Value} (h:lk L t=some v) (hs:Sub L1 L):Sub ((t,v)::L1) L:=by
 intro s u hu;rcases xO hu with⟨rfl,rfl⟩|⟨_,hl⟩
 ·exact h
 ·exact hs s u hl
theorem Sub.refl (L:Env):Sub L L:=λ_ _ h=>h
theorem Sat.sub {n:Nd} {L L1:Env} {a:Act} (h:Sat n L a) (hs:Sub L1 L):Sat n L1 a:=⟨h.size,h.defers,λt v ht=>h.val t v (hs t v ht)⟩
structure Row where
 e:TypeId
 sz:Nat
 A:AF
 n:Nat
 c:Nat
 xs:AG
 ro:Bool:=false
def Row.lies (B:Nat) (w:World) (r:Row):Prop:=
 match r.ro with
 |false=>w.ownsRow B r.e r.sz (.slice r.A r.n r.c) r.n r.xs
 |true=> ∃g cur fr,r.A=some ⟨g,0,none⟩/\B<=g/\w.heap[g]? =some (.cells cur r.e fr)/\r.n<=maxLen/\r.n<=r.c/\r.xs.length=r.n*r.sz/\cur.toList.take (r.n*r.sz)=r.xs
def Row.apart (r r':Row):Prop:= ∀a a',r.A=some a->r'.A=some a'->a.block≠a'.block
theorem Row.apart_symm {r r':Row} (h:r.apart r'):r'.apart r:=λa a' h1 h2=>Ic (h a' a h2 h1)
def XH:Obj->Bool
 | .cells .. =>false
 |_=>true
def Late (w0 w:World):Prop:=w0.drawn<=w.drawn/\ ∀(k:Nat) (o:Obj),w0.heap[k]? =some o->XH o=true->w.heap[k]? =some o
theorem Late.refl (w:World):Late w w:=⟨dn _,λ_ _ h _=>h⟩
theorem Late.trans {w0 w w':World} (h:Late w0 w) (h':Late w w'):Late w0 w':=⟨ry h.1 h'.1,λk o h1 h2=>h'.2 k o (h.2 k o h1 h2) h2⟩
theorem Late.draws {w:World} {k:Nat} (h:w.drawn<=k):Late w {w with drawn:=k}:=⟨h,λ_ _ h _=>h⟩
theorem Late.alloc (w:World) (o:Obj):Late w (w.alloc o):=⟨dn _,λk _ h _=>by
 have bo:k<w.heap.size:=(gp.1 h).1;unfold World.alloc;rw[Array.getElem?_push,df G]
 exact h⟩
structure Hp (B:Nat) (w0 w:World) (R:List Row):Prop where
 below:Below B w0 w
 base:B<=w.heap.size
 own: ∀r∈R,r.lies B w
 apart:R.Pairwise Row.apart
 late:Late w0 w
theorem Hp.refl (w:World):Hp w.heap.size w w []:=⟨Er _ _,dn _,λ_ h=>(by cases h), .nil,Late.refl _⟩
theorem Hp.tail {B:Nat} {w0 w:World} {r:Row} {R:List Row} (h:Hp B w0 w (r::R)):Hp B w0 w R:=
 ⟨h.below,h.base,λq hq=>h.own q (.tail _ hq),(il.1 h.apart).2,h.late⟩
theorem Hp.right {B:Nat} {w0 w:World} {R' R:List Row} (h:Hp B w0 w (R'++R)):Hp B w0 w R:=by
 induction R' with
 |nil=>exact h
 |cons r R' ih=>exact ih h.tail
theorem Hp.perm {B:Nat} {w0 w:World} {R R':List Row} (h:Hp B w0 w R) (hp:R.Perm R'):Hp B w0 w R':=
 ⟨h.below,h.base,λq hq=>h.own q (hp.mem_iff.2 hq),hp.pairwise h.apart Row.apart_symm,h.late⟩
theorem Hp.sublist {B:Nat} {w0 w:World} {R R':List Row} (h:Hp B w0 w R) (hs:R'.Sublist R):Hp B w0 w R':=
 ⟨h.below,h.base,λq hq=>h.own q (hs.subset hq),h.apart.sublist hs,h.late⟩
theorem Hp.sel {B:Nat} {w0 w:World} {R:List Row} (h:Hp B w0 w R) (is:List Nat) (hn:is.Nodup) {R':List Row} (hR:is.map (λi=>R[i]?)=R'.map some):Hp B w0 w R':=by
 refine⟨h.below,h.base,λq hq=> ?_,?_,h.late⟩
 ·have h1:some q∈R'.map some:=gz.2 ⟨q,hq,rfl⟩;rw[<-hR] at h1;obtain⟨i,_,hi⟩:=gz.1 h1;exact h.own q (gq hi)
 ·have h1:(R'.map some).Pairwise (λx y=> ∀r r',x=some r->y=some r'->Row.apart r r'):=by
   rw[<-hR];refine ib.2 (hn.imp ?_);intro i j cg r r' hi hj;rcases Cx cg with bo|bo
   ·exact dz.1 h.apart i j (gm.1 hi).1 (gm.1 hj).1 bo|>λhh=>by
     rw[(gm.1 hi).2,(gm.1 hj).2] at hh;exact hh
   ·exact Row.apart_symm (dz.1 h.apart j i (gm.1 hj).1 (gm.1 hi).1 bo|>λhh=>by
     rw[(gm.1 hi).2,(gm.1 hj).2] at hh;exact hh)
  exact(ib.1 h1).imp λhh=>hh _ _ rfl rfl
theorem Hp.drawn {B:Nat} {w0 w:World} {R:List Row} (h:Hp B w0 w R) (k:Nat) (hk:w.drawn<=k):Hp B w0 {w with drawn:=k} R:=
 ⟨⟨h.below.os,h.below.tape,h.below.output,h.below.size,h.below.block⟩,h.base,λr hr=>by
  have:=h.own r hr;unfold Row.lies at*
  cases mt:r.ro<;>simp only[mt] at this ⊢ <;>exact this,h.apart,h.late.trans (Late.draws hk)⟩
theorem Row.lies_cells {B:Nat} {w:World} {r:Row} (h:r.lies B w) {a:Addr} (ha:r.A=some a): ∃cs e fr,w.heap[a.block]? =some (.cells cs e fr):=by
 unfold Row.lies at h;cases mt:r.ro with
 | false=>
  simp only[mt] at h;rcases h.2 with⟨hv,_⟩|⟨g,cap,cur,hv,_,hg,_⟩
  ·simp only[jv] at hv;rw[hv.1] at ha;cases ha
  ·simp only[jv] at hv;rw[hv.1] at ha;obtain rfl:=jd ha;exact⟨_,_,_,hg⟩
 |true=>
  simp only[mt] at h;obtain⟨g,cur,fr,hA,_,hg,_⟩:=h;rw[hA] at ha;obtain rfl:=jd ha;exact⟨_,_,_,hg⟩
theorem Row.lies_of_block {B:Nat} {w w':World} {r:Row} (h:r.lies B w) (hk: ∀a,r.A=some a->w'.heap[a.block]? =w.heap[a.block]?):r.lies B w':=by
 unfold Row.lies at*;cases mt:r.ro with
 | false=>
  simp only[mt] at h ⊢;refine⟨h.1,?_⟩;rcases h.2 with hn|⟨g,cap,cur,hv,hb,hg,rest⟩
  ·exact .inl hn
  ·refine .inr ⟨g,cap,cur,hv,hb,?_,rest⟩;have hA:r.A=some ⟨g,0,none⟩:=by injection hv
   rw[hk _ hA];exact hg
 |true=>
  simp only[mt] at h ⊢;obtain⟨g,cur,fr,hA,hb,hg,rest⟩:=h;exact⟨g,cur,fr,hA,hb,by rw[hk _ hA];exact hg,rest⟩
theorem Row.lies_lt {B:Nat} {w:World} {r:Row} (h:r.lies B w): ∀a,r.A=some a->B<=a.block/\a.block<w.heap.size:=by
 intro a ha;unfold Row.lies at h;cases mt:r.ro with
 |false=>
  simp only[mt] at h;exact h.lt a.block (by simp[Value.ownBlock,ha])
 |true=>
  simp only[mt] at h;obtain⟨g,cur,fr,hA,hb,hg,_⟩:=h;rw[hA] at ha;obtain rfl:=jd ha;exact⟨hb,(gp.1 hg).1⟩
theorem Hp.join {B:Nat} {w0 w w':World} {R Rn:List Row} (h:Hp B w0 w R) (h':Hp w.heap.size w w' Rn):Hp B w0 w' (Rn++R):=by
 refine⟨h.below.trans (h'.below.mono h.base),ry h.base h'.base,λr hr=> ?_,?_,h.late.trans h'.late⟩
 ·rcases fo.1 hr with hr|hr
  ·have h1:=h'.own r hr;unfold Row.lies at*;cases mt:r.ro with
   |false=>
    simp only[mt] at h1 ⊢;refine⟨h1.1,?_⟩;rcases h1.2 with hn|⟨g,cap,cur,hv,hb,rest⟩
    ·exact .inl hn
    ·exact .inr ⟨g,cap,cur,hv,ry h.base hb,rest⟩
   |true=>
    simp only[mt] at h1 ⊢;obtain⟨g,cur,fr,hA,hb,rest⟩:=h1;exact⟨g,cur,fr,hA,ry h.base hb,rest⟩
  ·have h1:=h.own r hr;exact Row.lies_of_block h1 λa ha=>h'.below.block a.block (Row.lies_lt h1 a ha).2
 ·refine ow.2 ⟨h'.apart,h.apart,λr hr q hq a a' ha nb=> ?_⟩;have h1:=(Row.lies_lt (h'.own r hr) a ha).1;have h2:=(Row.lies_lt (h.own q hq) a' nb).2;omega
theorem MZ {α:Type}: ∀(a:Ask α) (w:World),w.drawn<=(w.ask a).2.drawn
 | .done _,_=>dn _
 | .ask what range k,w=>by
  unfold World.ask;simp only;split
  ·exact MZ _ _
  ·exact ry (Ia _) (MZ _ {w with drawn:=w.drawn+1})
theorem aPe (w:World) (c:Sys):w.drawn<=(w.sys c).2.drawn:=by
 have h:=MZ (Kernel.perform c w.os) w;unfold World.sys;split
 ·exact dn _
 ·rename_i he;rw[he] at h;exact h
theorem aZo {ε α β:Type} {x:Except ε α} {f:α->Except ε β} {r:β} (h:Except.bind x f= .ok r): ∃a,f a= .ok r:=by
 cases x with
 |error e=>cases h
 |ok a=>exact⟨a,h⟩
theorem aIt {P:Program} {w:World} {b a:Addr} {u:TypeId} {v:Value} {c:Bool} {r:World × List Addr} (h:w.viewStore P b u a v c= .ok r):r.1.drawn=w.drawn:=by
 unfold World.viewStore at h;simp only[bind,pure,Except.pure] at h
 repeat' first
  |(cases h;done)
  |(split at h)
  |(replace h:=aZo h;cases h;rename_i h)
 all_goals (simp only[Except.ok.injEq] at h;rw[<-h])
theorem aTj {P:Program} {w:World} {a:Addr} {v:Value} {b:Bool} {r:World × List Addr} (h:w.farStore P a v b= .ok r):r.1.drawn=w.drawn:=by
 unfold World.farStore at h;split at h
 ·split at h
  ·rename_i hv;simp only[Except.ok.injEq] at h;rw[<-h];exact aIt hv
  ·cases h
 ·cases h
theorem JL {α:Type} {P:Program}: ∀(m:Sem α) (w w':World) (a:α),m.run P w= .ok a w'->w.drawn<=w'.drawn:=by
  intro m
  induction m with
  |pure a=>intro w w' b h;simp only[Sem.run,Co] at h;rw[h.2];exact dn _
  | load m a k ih=>
    intro w w' b h;simp only[Sem.run] at h;split at h
    · exact ih _ _ _ _ h
    · split at h
      · exact ih _ _ _ _ h
      · cases h
  | store m a v k ih=>
    intro w w' b h;cases v<;>simp only[Sem.run] at h
    all_goals first
      |(cases h;done)
      | (split at h
         · split at h
           · cases h
           · have h1:=ih _ _ _ h
             exact h1
         · split at h
           · rename_i hf
             have h1:=ih _ _ _ h;have h2:=aTj hf;simp only at h2;rw[h2] at h1;exact h1
           · cases h)
  |new o k ih=>intro w w' b h;have h1:=ih w.heap.size {w with heap:=w.heap.push o} w' b h;exact h1
  |shape r k ih=>intro w w' b h;exact ih _ _ _ _ h
  | freeze a n k ih=>
    intro w w' b h;have:=ih _ _ _ h;have e:(w.freeze a n).drawn=w.drawn:=by unfold World.freeze;split<;>rfl
    rwa[e] at this
  |frozen a k ih=>intro w w' b h;exact ih _ _ _ _ h
  | getObj r k ih=>
    intro w w' b h;simp only[Sem.run] at h;split at h
    · cases h
    · exact ih _ _ _ _ h
    · cases h
  | setObj r o k ih=>
    intro w w' b h;simp only[Sem.run] at h;split at h
    · cases h
    · have h1:=ih _ _ _ h
      exact h1
    · cases h
  | choose q k ih=>
    intro w w' b h;simp only[Sem.run] at h;split at h
    · exact ih _ _ _ _ h
    · exact ry (Ia _) (ih _ _ _ _ h)
  | sys c k ih=>
    intro w w' b h;exact ry (aPe w c) (ih _ _ _ _ h)
  |program k ih=>intro w w' b h;exact ih _ _ _ _ h
  |mark m k ih=>intro w w' b h;exact ih _ _ _ h
  |halt x=>intro w w' b h;cases h
structure Rd (w:World) (A:AF) (n c sz:Nat) (xs:AG):Prop where
 len:xs.length=n*sz
 max:n<=9223372036854775807
 le:n<=c
 at_: ∀j v,xs[j]? =some v-> ∃a,A=some a/\w.cell? (a.add j)=some v
def RdC (B:Nat) (w0:World) (R:List Row) (A:AF) (n c sz:Nat) (xs:AG):Prop:= ∀w,Hp B w0 w R->Rd w A n c sz xs
theorem Rd.below {w w':World} {A:AF} {n c sz:Nat} {xs:AG} (h:Rd w A n c sz xs) (hb:Below w.heap.size w w'):Rd w' A n c sz xs:=
 ⟨h.len,h.max,h.le,λj v hv=>by
  obtain⟨a,ha,hc⟩:=h.at_ j v hv
  exact⟨a,ha,(hb.cell (World.block_lt_of_cell? w _ hc)).trans hc⟩⟩
theorem Rd.c {w:World} {A:AF} {n c sz:Nat} {xs:AG} (h:Rd w A n c sz xs) (R:List Row):RdC w.heap.size w R A n c sz xs:=λ_ hw=>h.below hw.below
theorem Row.rd {B:Nat} {w:World} {r:Row} (h:r.lies B w):Rd w r.A r.n r.c r.sz r.xs:=by
 unfold Row.lies at h;cases mt:r.ro with
 | false=>
  simp only[mt] at h;refine⟨h.1,?_,?_,λj v hv=> ?_⟩
  ·rcases h.2 with⟨_,hn⟩|⟨g,cap,cur,_,_,_,h1,h2,_⟩
   ·omega
   ·unfold maxLen at h2;omega
  ·rcases h.2 with⟨_,hn⟩|⟨g,cap,cur,hv,_,_,h1,h2,_⟩
   ·omega
   ·simp only[jv] at hv;omega
  ·rcases h.2 with⟨Rp,hn⟩|⟨g,cap,cur,Rp,_⟩
   ·have:r.xs.length=0:=by rw[h.1,hn];omega
    rw[lm G] at hv;cases hv
   ·have hA:r.A=some ⟨g,0,none⟩:=by injection Rp
    exact⟨_,hA,h.cells (g:=g) (by simp[Value.ownBlock,hA]) j v hv⟩
 |true=>
  simp only[mt] at h;obtain⟨g,cur,fr,hA,_,hg,hm,hc,hl,ht⟩:=h;unfold maxLen at hm;refine⟨hl,hm,hc,λj v hv=>⟨_,hA,?_⟩⟩;have Ma:(⟨g,0,none⟩:Addr).add j=⟨g,j,none⟩:=by unfold Addr.add;split<;>simp_all
  rw[Ma,cell_of_row w g j cur r.e fr hg];rw[<-ht,pg] at hv;split at hv
  ·simpa using hv
  ·cases hv
theorem rdR {B:Nat} {w0:World} {R:List Row} (i:Nat) {r:Row} (hi:R[i]? =some r):RdC B w0 R r.A r.n r.c r.sz r.xs:=λ_ hw=>Row.rd (hw.own r (gq hi))
theorem rdr {B:Nat} {w0:World} {R:List Row} (i:Nat) {e sz:Nat} {A:AF} {n c:Nat} {xs:AG} {ro:Bool} (hi:R[i]? =some ⟨e,sz,A,n,c,xs,ro⟩):RdC B w0 R A n c sz xs:=rdR i hi
theorem RdC.right {B:Nat} {w0:World} {R:List Row} {A:AF} {n c sz:Nat} {xs:AG} (h:RdC B w0 R A n c sz xs) (R':List Row):RdC B w0 (R'++R) A n c sz xs:=λw hw=>h w hw.right
theorem RdC.tail {B:Nat} {w0:World} {R:List Row} {A:AF} {n c sz:Nat} {xs:AG} (h:RdC B w0 R A n c sz xs) {r:Row}:RdC B w0 (r::R) A n c sz xs:=λw hw=>h w hw.tail
structure eZ where
 nrm:Env->List Row->Prop
 ret:Env->List Row->Prop
 ext:Nat->Env->List Row->Prop
section
variable {P:Program} {n:Nd} {B:Nat} {w0:World}
def PQ (n:Nd) (B:Nat) (w0:World) (Q:eZ):Exit->Act->World->Prop
 | .normal,a,w=> ∃L R,Sat n L a/\Hp B w0 w R/\Q.nrm L R
 | .ret,a,w=> ∃L R,Sat n L a/\Hp B w0 w R/\Q.ret L R
 | .exit i,a,w=> ∃L R,Sat n L a/\Hp B w0 w R/\Q.ext i L R
 |_,_,_=>False
def W (P:Program) (n:Nd) (B:Nat) (w0:World) (c:Code) (Q:eZ) (L:Env) (R:List Row):Prop:=
 ∀a w,Sat n L a->Hp B w0 w R->c.wpIn (NF n.rd) 0 P (PQ n B w0 Q) a w
theorem aD {x y:Code} {Q:eZ} {L:Env} {R:List Row} (h:W P n B w0 x {Q with nrm:=λL R=>W P n B w0 y Q L R} L R):W P n B w0 (.seq x y) Q L R:=by
 intro a w hs hp;refine wpIn_seq (Ah (h a w hs hp) ?_);intro e a' w' hq;cases e with
 |normal=>obtain⟨L',R',eh,cv,hw⟩:=hq;exact hw a' w' eh cv
 |exit id=>exact hq
 |goto l=>exact hq
 |ret=>exact hq
 |panic ch=>exact hq
 |outgrown=>exact hq
theorem aI {id:Nat} {c:Code} {Q:eZ} {L:Env} {R:List Row} (h:W P n B w0 c {Q with ext:=λi L R=>bif Nat.beq i id then Q.nrm L R else Q.ext i L R} L R):W P n B w0 (.block id c) Q L R:=by
 intro a w hs hp;refine wpIn_block (Ah (h a w hs hp) ?_);intro e a' w' hq;cases e with
 |normal=>exact hq
 | exit i=>
  obtain⟨L',R',eh,cv,hw⟩:=hq;simp only[Exit.inBlock];by_cases hi:i=id
  ·subst hi;rw[di rfl];exact⟨L',R',eh,cv,by simpa using hw⟩
  ·rw [df hi]
   have hb:Nat.beq i id=false:=by
    cases hb:Nat.beq i id with
    |true=>exact absurd (xq hb) hi
    |false=>rfl
   dsimp only at hw;rw[hb] at hw;exact⟨L',R',eh,cv,hw⟩
 |goto l=>exact hq
 |ret=>exact hq
 |panic ch=>exact hq
 |outgrown=>exact hq
theorem aS {id:Nat} {Q:eZ} {L:Env} {R:List Row} (h:Q.ext id L R):W P n B w0 (.exit id) Q L R:=
 λ_ _ hs hp=>wpIn_exit ⟨L,R,hs,hp,h⟩
theorem bT {Q:eZ} {L:Env} {R:List Row} (h:Q.ret L R):W P n B w0 .ret Q L R:=λ_ _ hs hp=>wpIn_ret ⟨L,R,hs,hp,h⟩
theorem aH {Q:eZ} {L:Env} {R:List Row} (h:Q.nrm L R):W P n B w0 .skip Q L R:=λ_ _ hs hp=>wpIn_skip ⟨L,R,hs,hp,h⟩
theorem IQ {c:Operand} {x y:Code} {Q:eZ} {L:Env} {R:List Row} {b:Bool} (hc:ev L c=some (.bool b)) (hx:b=true->W P n B w0 x Q L R) (hy:b=false->W P n B w0 y Q L R):W P n B w0 (.cond c x y) Q L R:=
 λa w hs hp=>wpIn_cond_split (hs.ev hc) (λhb=>hx hb a w hs hp) (λhb=>hy hb a w hs hp)
theorem bA {c:Operand} {x y:Code} {Q:eZ} {L:Env} {R:List Row} {p:Prop} [Decidable p] (hc:ev L c=some (.bool (decide p))) (hx:p->W P n B w0 x Q L R) (hy: ¬p->W P n B w0 y Q L R):W P n B w0 (.cond c x y) Q L R:=
 IQ hc (λh=>hx (yu h)) (λh=>hy (of_decide_eq_false h))
theorem dI {c:Operand} {x y:Code} {Q:eZ} {L:Env} {R:List Row} (hc:ev L c=some (.bool true)) (hx:W P n B w0 x Q L R):W P n B w0 (.cond c x y) Q L R:=IQ hc (λ_=>hx) (λh=>by cases h)
theorem aN {c:Operand} {x y:Code} {Q:eZ} {L:Env} {R:List Row} (hc:ev L c=some (.bool false)) (hy:W P n B w0 y Q L R):W P n B w0 (.cond c x y) Q L R:=IQ hc (λh=>by cases h) (λ_=>hy)
theorem aFc {c:Code} {Q:eZ} {L L1:Env} {R R1:List Row} (hL:Sub L1 L) (hR: ∀w,Hp B w0 w R->Hp B w0 w R1) (h:W P n B w0 c Q L1 R1):W P n B w0 c Q L R:=
 λa w hs hp=>h a w (hs.sub hL) (hR w hp)
theorem iC {c:Code} {Q Q':eZ} {L:Env} {R:List Row} (h:W P n B w0 c Q L R) (h1: ∀L R,Q.nrm L R->Q'.nrm L R) (h2: ∀L R,Q.ret L R->Q'.ret L R) (h3: ∀i L R,Q.ext i L R->Q'.ext i L R):W P n B w0 c Q' L R:=by
 intro a w hs hp;refine Ah (h a w hs hp) ?_;intro e a' w' hq;cases e with
 |normal=>obtain⟨L',R',eh,cv,hw⟩:=hq;exact⟨L',R',eh,cv,h1 _ _ hw⟩
 |exit id=>obtain⟨L',R',eh,cv,hw⟩:=hq;exact⟨L',R',eh,cv,h3 _ _ _ hw⟩
 |goto l=>exact hq
 |ret=>obtain⟨L',R',eh,cv,hw⟩:=hq;exact⟨L',R',eh,cv,h2 _ _ hw⟩
 |panic ch=>exact hq
 |outgrown=>exact hq
def Fam {σ:Type} (B:Nat) (w0:World) (Lx:σ->Env) (Rx:σ->List Row) (J:σ->Prop) (L:Env) (R:List Row):Prop:=
 ∃x,J x/\Sub (Lx x) L/\ ∀w,Hp B w0 w R->Hp B w0 w (Rx x)
theorem oZ {σ:Type} {c:Code} {Q:eZ} {L:Env} {R:List Row} (Lx:σ->Env) (Rx:σ->List Row) (J:σ->Prop) (μ:σ->Nat)
  (h0:Fam B w0 Lx Rx J L R)
  (round: ∀x,J x->W P n B w0 c {Q with nrm:=Fam B w0 Lx Rx (λy=>J y/\μ y<μ x)} (Lx x) (Rx x)):W P n B w0 (.loop c) Q L R:=by
 intro a w hs hp;obtain⟨x0,n9,Xx,Lq⟩:=h0;refine wpIn_loop_ghost (λk a w=> ∃x,μ x=k/\J x/\Sat n (Lx x) a/\Hp B w0 w (Rx x)) (μ x0) ⟨x0,rfl,n9,hs.sub Xx,Lq w hp⟩ ?_;rintro k a w ⟨x,rfl,hJ,hs,hp⟩;refine Ah (round x hJ a w hs hp) ?_;intro e a' w' hq;cases e with
 |normal=>
  obtain⟨L',R',eh,cv,y,⟨Xv,bo⟩,hLy,hRy⟩:=hq;exact⟨μ y,bo,y,rfl,Xv,eh.sub hLy,hRy _ cv⟩
 |exit id=>exact hq
 |goto l=>exact hq
 |ret=>exact hq
 |panic ch=>exact hq
 |outgrown=>exact hq
def Ct (P:Program) (f:FuncId) (args:Array Value) (B:Nat) (w0:World) (R:List Row) (Post:Value->List Row->Prop):Prop:=
 ∀w,Hp B w0 w R->Calls P f args w λe w'=> ∃v R',e= .returned v/\Hp B w0 w' R'/\Post v R'
theorem Ct.mono {f:FuncId} {args:Array Value} {R:List Row} {Post Nc:Value->List Row->Prop} (h:Ct P f args B w0 R Post) (hp: ∀v R',Post v R'->Nc v R'):Ct P f args B w0 R Nc:=
 λw hw=>(h w hw).mono λ_ _ ⟨v,R',he,hh,hv⟩=>⟨v,R',he,hh,hp _ _ hv⟩
theorem Ct.fresh {f:FuncId} {args:Array Value} {R:List Row} {Post:Value->List Row->Prop} (h: ∀w,Hp B w0 w R->Ct P f args w.heap.size w [] Post):
  Ct P f args B w0 R (λv R'=> ∃Rn,R'=Rn++R/\Post v Rn):=
 λw hw=>(h w hw w (Hp.refl w)).mono λ_ _ ⟨v,Rn,he,hh,hv⟩=>⟨v,Rn++R,he,hw.join hh,Rn,rfl,hv⟩
theorem Ct.sub {f:FuncId} {args:Array Value} {R R1:List Row} {Post:Value->List Row->Prop} (hR: ∀w,Hp B w0 w R->Hp B w0 w R1) (h:Ct P f args B w0 R1 Post):Ct P f args B w0 R Post:=
 λw hw=>h w (hR w hw)
def ini:Nat->AG->Env
 |_,[]=>[]
 |k,v::vs=>(k,v)::ini (k+1) vs
theorem aCl: ∀(vs:AG) (k t:Nat) (v:Value),lk (ini k vs) t=some v->k<=t/\vs[t-k]? =some v:=by
 intro vs
 induction vs with
 |nil=>intro k t v h;simp[ini,lk] at h
 | cons u us ih=>
  intro k t v h;rcases xO h with⟨rfl,rfl⟩|⟨_,hl⟩
  ·simp
  ·obtain ⟨h1,h2⟩:=ih (k+1) t v hl;refine⟨G,?_⟩;have:t-k=(t-(k+1))+1:=G
   rw[this];simpa using h2
theorem aHc {f:FuncId} {fn:Func} {c:Code} {args:AG} {R:List Row} {Post:Value->List Row->Prop} (hf:P.funcs[f]? =some fn) (hb:fn.body=some c) (hl:Nat.ble args.length fn.ntmps=true)
  {Rt:Env->Option Value} (Mu: ∀L a w v,Sat fn.ntmps L a->Rt L=some v->(results fn a.tmps).run P w= .ok v w)
  (h:W P fn.ntmps B w0 c ⟨λL R'=> ∃v,Rt L=some v/\Post v R',λL R'=> ∃v,Rt L=some v/\Post v R',λ_ _ _=>False⟩ (ini 0 args) R):Ct P f args.toArray B w0 R Post:=by
 intro w hw;have Ra:args.length<=fn.ntmps:=ak hl;refine calls_of_wp hf hb (wp_mono (wpIn_wide.1 (h _ w ⟨cG,rfl,λt v ht=> ?_⟩ hw)) ?_)
 ·obtain ⟨_,h2⟩:=aCl args 0 t v ht;simp only[xz] at h2;have bo:=(gm.1 h2).1;rw[<-h2];simp[Be,bo]
 ·intro e a' w' hq;cases e with
  |normal=>obtain⟨L',R',eh,cv,v,hv,ov⟩:=hq;exact⟨eh.defers,v,Mu _ _ _ _ eh hv,v,R',rfl,cv,ov⟩
  |ret=>obtain⟨L',R',eh,cv,v,hv,ov⟩:=hq;exact⟨eh.defers,v,Mu _ _ _ _ eh hv,v,R',rfl,cv,ov⟩
  |exit id=>obtain⟨_,_,_,_,h⟩:=hq;exact h.elim
  |goto l=>exact hq
  |panic ch=>exact hq.elim
  |outgrown=>exact hq.elim
theorem fn0 {f:FuncId} {fn:Func} {c:Code} {args:AG} {R:List Row} {Post:Value->List Row->Prop} (hf:P.funcs[f]? =some fn) (hb:fn.body=some c) (hr:fn.results= #[]) (hl:Nat.ble args.length fn.ntmps=true)
  (h:W P fn.ntmps B w0 c ⟨λ_ R'=>Post (.tuple #[]) R',λ_ R'=>Post (.tuple #[]) R',λ_ _ _=>False⟩ (ini 0 args) R):Ct P f args.toArray B w0 R Post:=
 aHc hf hb hl (Rt:=λ_=>some (.tuple #[])) (λ_ _ _ v _ hv=>by obtain rfl:=jd hv;exact results_none hr _ _ _) (by simpa using h)
theorem fn1 {f:FuncId} {fn:Func} {c:Code} {args:AG} {R:List Row} {Post:Value->List Row->Prop} {r:Nat} (hf:P.funcs[f]? =some fn) (hb:fn.body=some c) (hr:fn.results= #[.tmp r]) (hl:Nat.ble args.length fn.ntmps=true)
  (h:W P fn.ntmps B w0 c ⟨λL R'=> ∃v,lk L r=some v/\Post v R',λL R'=> ∃v,lk L r=some v/\Post v R',λ_ _ _=>False⟩ (ini 0 args) R):Ct P f args.toArray B w0 R Post:=
 aHc hf hb hl (Rt:=λL=>lk L r) (λ_ _ _ v hs hv=>by rw[results_tmp hr,hs.getD hv]) h
theorem fn2 {f:FuncId} {fn:Func} {c:Code} {args:AG} {R:List Row} {Post:Value->List Row->Prop} {r s:Nat} (hf:P.funcs[f]? =some fn) (hb:fn.body=some c) (hr:fn.results= #[.tmp r, .tmp s]) (hl:Nat.ble args.length fn.ntmps=true)
  (h:W P fn.ntmps B w0 c ⟨λL R'=> ∃v u,lk L r=some v/\lk L s=some u/\Post (.tuple #[v,u]) R',λL R'=> ∃v u,lk L r=some v/\lk L s=some u/\Post (.tuple #[v,u]) R',λ_ _ _=>False⟩ (ini 0 args) R):Ct P f args.toArray B w0 R Post:=by
 refine aHc hf hb hl (Rt:=λL=>(lk L r).bind λv=>(lk L s).map λu=> .tuple #[v,u]) (λL a w v hs hv=> ?_) (iC h ?_ ?_ (λ_ _ _ h=>h))
 ·obtain ⟨x,hx,hv⟩:=Dj.1 hv;obtain⟨u,hu,rfl⟩:=iy.1 hv;rw[results_tmp2 hr,hs.getD hx,hs.getD hu]
 ·rintro L R' ⟨v,u,hv,hu,hp⟩;exact⟨_,by simp[hv,hu],hp⟩
 ·rintro L R' ⟨v,u,hv,hu,hp⟩;exact⟨_,by simp[hv,hu],hp⟩
theorem fn3 {f:FuncId} {fn:Func} {c:Code} {args:AG} {R:List Row} {Post:Value->List Row->Prop} {r s t:Nat} (hf:P.funcs[f]? =some fn) (hb:fn.body=some c) (hr:fn.results= #[.tmp r, .tmp s, .tmp t]) (hl:Nat.ble args.length fn.ntmps=true)
  (h:W P fn.ntmps B w0 c ⟨λL R'=> ∃v u x,lk L r=some v/\lk L s=some u/\lk L t=some x/\Post (.tuple #[v,u,x]) R',λL R'=> ∃v u x,lk L r=some v/\lk L s=some u/\lk L t=some x/\Post (.tuple #[v,u,x]) R',λ_ _ _=>False⟩ (ini 0 args) R):Ct P f args.toArray B w0 R Post:=by
 refine aHc hf hb hl (Rt:=λL=>(lk L r).bind λv=>(lk L s).bind λu=>(lk L t).map λx=> .tuple #[v,u,x]) (λL a w v hs hv=> ?_) (iC h ?_ ?_ (λ_ _ _ h=>h))
 ·obtain ⟨x,hx,hv⟩:=Dj.1 hv;obtain⟨u,hu,hv⟩:=Dj.1 hv;obtain⟨y,hy,rfl⟩:=iy.1 hv;simp[results,hr,hs.val r x hx,hs.val s u hu,hs.val t y hy]
 ·rintro L R' ⟨v,u,x,hv,hu,hx,hp⟩;exact⟨_,by simp[hv,hu,hx],hp⟩
 ·rintro L R' ⟨v,u,x,hv,hu,hx,hp⟩;exact⟨_,by simp[hv,hu,hx],hp⟩
def WR (P:Program) (n:Nd) (B:Nat) (w0:World) (ops:Array Oper) (l:List Oper) (K:Env->List Row->Prop) (L:Env) (R:List Row):Prop:=
 ∀a w (Q:Exit->Act->World->Prop),Sat n L a->Hp B w0 w R->(∀a' w' L' R',Sat n L' a'->Hp B w0 w' R'->K L' R'->Q .normal a' w')->wpList P ops Q l a w
theorem aEs {Q:eZ}: ¬LetsOut (PQ n B w0 Q):=λ⟨_,_,h⟩=>h
theorem aJ {id:Nat} {l:List Oper} {Q:eZ} {L:Env} {R:List Row} (h:WR P n B w0 l.toArray l Q.nrm L R) (hd:BF n.rd l=true:=by exact rfl):W P n B w0 (.region id l.toArray false) Q L R:=
 λa w hs hp=>wpIn_region_lit (aCm aEs l a w hd (h a w _ hs hp λ_ _ L' R' eh cv hk=>⟨L',R',eh,cv,hk⟩))
variable {ops:Array Oper} {l:List Oper} {K:Env->List Row->Prop} {L:Env} {R:List Row} {op:Op} {ty:TypeId} {pos:String} {nj:Array Edge}
theorem aA (h:K L R):WR P n B w0 ops [] K L R:=λ_ _ _ hs hp hq=>wpList_nil (hq _ _ L R hs hp h)
def Yl (P:Program) (n:Nd) (B:Nat) (w0:World) (op:Op) (ty:TypeId) (L:Env) (R:List Row) (v:Value):Prop:=
 ∀(a:Act) (w:World) (o:Oper),o.op=op->o.type=ty->Sat n L a->Hp B w0 w R->(execOp a.eval o).run P w= .ok (.value v) w
def Ac (P:Program) (n:Nd) (B:Nat) (w0:World) (op:Op) (ty:TypeId) (L:Env) (R:List Row) (Post:Value->List Row->Prop):Prop:=
 ∀(a:Act) (w:World) (o:Oper) (K:Act->World->Prop) (Q:Exit->Act->World->Prop),o.op=op->o.type=ty->Sat n L a->Hp B w0 w R->(∀v w' R',Hp B w0 w' R'->Post v R'->K (a.put o.dst v) w')->o.wp P a w K Q
theorem RX {d:Nat} {v:Value} (hn:Nat.blt d n=true) (hy:Yl P n B w0 op ty L R v) (h:WR P n B w0 ops l K ((d,v)::L) R):WR P n B w0 ops ({dst:=some d,op:=op,type:=ty,pos:=pos,after:=nj,guard:=none}::l) K L R:=by
 intro a w Q hs hp hq;refine wpList_plain rfl λK' Sq=> ?_;unfold Oper.wp;rw[hy a w _ rfl rfl hs hp];exact Sq _ _ (h _ _ Q (hs.put hn v) hp hq)
theorem bKh {d:Nat} {Post:Value->List Row->Prop} (hn:Nat.blt d n=true) (ha:Ac P n B w0 op ty L R Post) (h: ∀v R',Post v R'->WR P n B w0 ops l K ((d,v)::L) R'):WR P n B w0 ops ({dst:=some d,op:=op,type:=ty,pos:=pos,after:=nj,guard:=none}::l) K L R:=by
 intro a w Q hs hp hq;refine wpList_plain rfl λK' Sq=> ?_;exact ha a w _ K' Q rfl rfl hs hp λv w' R' cv hv=>Sq _ _ (h v R' hv _ _ Q (hs.put hn v) cv hq)
theorem bY {Post:Value->List Row->Prop} (ha:Ac P n B w0 op ty L R Post) (h: ∀v R',Post v R'->WR P n B w0 ops l K L R'):WR P n B w0 ops ({dst:=none,op:=op,type:=ty,pos:=pos,after:=nj,guard:=none}::l) K L R:=by
 intro a w Q hs hp hq;refine wpList_plain rfl λK' Sq=> ?_;exact ha a w _ K' Q rfl rfl hs hp λv w' R' cv hv=>Sq _ _ (h v R' hv _ _ Q hs cv hq)
theorem qE {j d:Nat} {b:Bool} {a:Act} (hs:Sat n L a) (hj:(ops[j]?).bind (·.dst)=some d) (hb:lk L d=some (.bool b)):yielded ops a.tmps j=some b:=by
 unfold yielded;rw[hj];simp only[Option.bind_some];rw[hs.val d _ hb]
theorem aB {j d:Nat} {want:Bool} {dst:Option Nat} (hj:(ops[j]?).bind (·.dst)=some d) (hb:lk L d=some (.bool want)) (h:WR P n B w0 ops ({dst:=dst,op:=op,type:=ty,pos:=pos,after:=nj,guard:=none}::l) K L R):
  WR P n B w0 ops ({dst:=dst,op:=op,type:=ty,pos:=pos,after:=nj,guard:=some (j,want)}::l) K L R:=by
 intro a w Q hs hp hq;have h1:=h a w Q hs hp hq;have hy:=qE hs hj hb;unfold wpList at h1 ⊢;rw[di (by simp[Region.wanted])] at h1;rw[di (by simp[Region.wanted,hy])];exact h1
theorem aM {j d e:Nat} {want b:Bool} (hj:(ops[j]?).bind (·.dst)=some d) (hb:lk L d=some (.bool b)) (cg:(b==want)=false) (hn:Nat.blt e n=true) (h:WR P n B w0 ops l K ((e,undef)::L) R):
  WR P n B w0 ops ({dst:=some e,op:=op,type:=ty,pos:=pos,after:=nj,guard:=some (j,want)}::l) K L R:=by
 intro a w Q hs hp hq;have hy:=qE hs hj hb;unfold wpList
 have:Region.wanted {dst:=some e,op:=op,type:=ty,pos:=pos,after:=nj,guard:=some (j,want)} (yielded ops a.tmps)=false:=by
  simp only[Region.wanted,hy];cases b<;>cases want<;>simp_all
 rw[this];simp only[vg,xg];exact h _ _ Q (hs.put hn undef) hp hq
theorem xY {j d:Nat} {a:Act} (hs:Sat n L a) (hj:(ops[j]?).bind (·.dst)=some d) (hb:lk L d=some undef):yielded ops a.tmps j=none:=by
 unfold yielded;rw[hj];simp only[Option.bind_some];rw[hs.val d _ hb];rfl
theorem eD {j d e:Nat} {want:Bool} (hj:(ops[j]?).bind (·.dst)=some d) (hb:lk L d=some undef) (hn:Nat.blt e n=true) (h:WR P n B w0 ops l K ((e,undef)::L) R):
  WR P n B w0 ops ({dst:=some e,op:=op,type:=ty,pos:=pos,after:=nj,guard:=some (j,want)}::l) K L R:=by
 intro a w Q hs hp hq;have hy:=xY hs hj hb;unfold wpList
 have:Region.wanted {dst:=some e,op:=op,type:=ty,pos:=pos,after:=nj,guard:=some (j,want)} (yielded ops a.tmps)=false:=by
  simp[Region.wanted,hy]
 rw[this];simp only[vg,xg];exact h _ _ Q (hs.put hn undef) hp hq
theorem qA {d:Nat} {v:Value} (h:lk L d=some v):Sub ((d,v)::L) L:=by
 intro t u hu;rcases xO hu with⟨rfl,rfl⟩|⟨_,hl⟩
 ·exact h
 ·exact hl
theorem bP (d:Nat) {p:Prop} [Decidable p] (hb:lk L d=some (.bool (decide p))) (ht:p->WR P n B w0 ops l K ((d, .bool true)::L) R) (hf: ¬p->WR P n B w0 ops l K ((d, .bool false)::L) R):WR P n B w0 ops l K L R:=by
 intro a w Q hs hp hq;by_cases h:p
 ·exact ht h a w Q (hs.sub (qA (by rw[hb,ko h]))) hp hq
 ·exact hf h a w Q (hs.sub (qA (by rw[hb,ol h]))) hp hq
theorem bR {L1:Env} {R1:List Row} (hL:Sub L1 L) (hR: ∀w,Hp B w0 w R->Hp B w0 w R1) (h:WR P n B w0 ops l K L1 R1):WR P n B w0 ops l K L R:=
 λa w Q hs hp hq=>h a w Q (hs.sub hL) (hR w hp) hq
theorem bK {d:Nat} {u v:Value} (hu:u=v) (h:WR P n B w0 ops l K ((d,v)::L) R):WR P n B w0 ops l K ((d,u)::L) R:=by
 subst hu;exact h
theorem fA {R1:List Row} (hR:R=R1) (h:WR P n B w0 ops l K L R1):WR P n B w0 ops l K L R:=by
 subst hR;exact h
end
end Go.Eng
namespace Go.Eng
open Go Go.RowKit
section
variable {P:Program} {n:Nd} {B:Nat} {w0:World} {L:Env} {R:List Row} {ty:TypeId}
theorem aK {x:Operand} {v:Value} (h:ev L x=some v):Yl P n B w0 (.move x) ty L R v:=by
 intro a w o ho _ hs _;simp[execOp,ho,hs.ev h]
theorem bB {x:Operand} {v:Value} (h:ev L x=some v):Yl P n B w0 (.assign x) ty L R v:=by
 intro a w o ho _ hs _;simp[execOp,ho,hs.ev h]
theorem aNz {c x y:Operand} {b:Bool} {v u:Value} (hc:ev L c=some (.bool b)) (hx:b=true->ev L x=some v) (hy:b=false->ev L y=some u):Yl P n B w0 (.pick c x y) ty L R (bif b then v else u):=by
 intro a w o ho _ hs _;cases b with
 |true=>simp[execOp,ho,hs.ev hc,hs.ev (hx rfl),asBool]
 |false=>simp[execOp,ho,hs.ev hc,hs.ev (hy rfl),asBool]
theorem aQ {c x y:Operand} {v:Value} (hc:ev L c=some (.bool true)) (hx:ev L x=some v):Yl P n B w0 (.pick c x y) ty L R v:=
 aNz (b:=true) (u:=undef) hc (λ_=>hx) (λh=>by cases h)
theorem aP {c x y:Operand} {v:Value} (hc:ev L c=some (.bool false)) (hy:ev L y=some v):Yl P n B w0 (.pick c x y) ty L R v:=
 aNz (b:=false) (v:=undef) hc (λh=>by cases h) (λ_=>hy)
theorem aO {x:Operand} {t e:TypeId} {A:AF} {m c:Nat} (ht:P.underlying t=some (.slice e)) (hx:ev L x=some (.slice A m c)):Yl P n B w0 (.call {callee:= .builtin .len,args:= #[x],argTypes:= #[t]}) ty L R (.int .i64 (m:Int)):=by
 intro a w o ho _ hs _;simp[execOp,ho,resolve,invoke,builtin,Builtin.len_,mo ht,hs.ev hx,goInt]
theorem uP {x y:Operand} {ts:Array TypeId} {k:IntKind} {p q:Int} (hx:ev L x=some (.int k p)) (hy:ev L y=some (.int k q)):Yl P n B w0 (.call {callee:= .builtin .min,args:= #[x,y],argTypes:=ts}) ty L R (.int k (min p q)):=by
 intro a w o ho _ hs _;have:(if q<p then q else p)=min p q:=G
 simp[execOp,ho,resolve,invoke,builtin,Builtin.min_,Builtin.min2,hs.ev hx,hs.ev hy,this]
theorem aOa {x y:Operand} {ts:Array TypeId} {k:IntKind} {p q:Int} (hx:ev L x=some (.int k p)) (hy:ev L y=some (.int k q)):Yl P n B w0 (.call {callee:= .builtin .max,args:= #[x,y],argTypes:=ts}) ty L R (.int k (max p q)):=by
 intro a w o ho _ hs _;have:(if p<q then q else p)=max p q:=G
 simp[execOp,ho,resolve,invoke,builtin,Builtin.max_,Builtin.max2,hs.ev hx,hs.ev hy,this]
theorem gT {x y:Operand} {t u:TypeId} {k:IntKind} {p q:Int} (hx:ev L x=some (.int k p)) (hy:ev L y=some (.int k q)):Yl P n B w0 (.binOp .eql t x y u) ty L R (.bool (decide (p=q))):=by
 intro a w o ho _ hs _;have:(p==q)=decide (p=q):=by by_cases h:p=q<;>simp[h]
 simp[execOp,ho,binOp,eqGuard,hs.ev hx,hs.ev hy,Op.intCmp,this]
theorem iI {x y:Operand} {t u:TypeId} {k:IntKind} {p q:Int} (hx:ev L x=some (.int k p)) (hy:ev L y=some (.int k q)):Yl P n B w0 (.binOp .neq t x y u) ty L R (.bool (decide (p≠q))):=by
 intro a w o ho _ hs _;have:(p !=q)=decide (p≠q):=by by_cases h:p=q<;>simp[h]
 simp[execOp,ho,binOp,eqGuard,hs.ev hx,hs.ev hy,Op.intCmp,this]
theorem fO {x y:Operand} {t u:TypeId} {k:IntKind} {p q:Int} (hx:ev L x=some (.int k p)) (hy:ev L y=some (.int k q)):Yl P n B w0 (.binOp .lss t x y u) ty L R (.bool (decide (p<q))):=by
 intro a w o ho _ hs _;simp[execOp,ho,binOp,eqGuard,hs.ev hx,hs.ev hy,Op.intCmp]
theorem uV {x y:Operand} {t u:TypeId} {k:IntKind} {p q:Int} (hx:ev L x=some (.int k p)) (hy:ev L y=some (.int k q)):Yl P n B w0 (.binOp .leq t x y u) ty L R (.bool (decide (p<=q))):=by
 intro a w o ho _ hs _;simp[execOp,ho,binOp,eqGuard,hs.ev hx,hs.ev hy,Op.intCmp]
theorem dN {x y:Operand} {t u:TypeId} {k:IntKind} {p q:Int} (hx:ev L x=some (.int k p)) (hy:ev L y=some (.int k q)):Yl P n B w0 (.binOp .gtr t x y u) ty L R (.bool (decide (q<p))):=by
 intro a w o ho _ hs _;simp[execOp,ho,binOp,eqGuard,hs.ev hx,hs.ev hy,Op.intCmp]
theorem jN {x y:Operand} {t u:TypeId} {k:IntKind} {p q:Int} (hx:ev L x=some (.int k p)) (hy:ev L y=some (.int k q)):Yl P n B w0 (.binOp .geq t x y u) ty L R (.bool (decide (q<=p))):=by
 intro a w o ho _ hs _;simp[execOp,ho,binOp,eqGuard,hs.ev hx,hs.ev hy,Op.intCmp]
theorem aOf {x y:Operand} {t u:TypeId} {k:IntKind} {p q:Int} (hx:ev L x=some (.int k p)) (hy:ev L y=some (.int k q)):Yl P n B w0 (.binOp .add t x y u) ty L R (.int k (k.wrap (p+q))):=by
 intro a w o ho _ hs _;simp[execOp,ho,binOp,eqGuard,hs.ev hx,hs.ev hy,Op.intArith]
theorem bBg {x y:Operand} {t u:TypeId} {k:IntKind} {p q:Int} (hx:ev L x=some (.int k p)) (hy:ev L y=some (.int k q)):Yl P n B w0 (.binOp .sub t x y u) ty L R (.int k (k.wrap (p-q))):=by
 intro a w o ho _ hs _;simp[execOp,ho,binOp,eqGuard,hs.ev hx,hs.ev hy,Op.intArith]
theorem bBj {x y:Operand} {t u:TypeId} {k:IntKind} {p q:Int} (hx:ev L x=some (.int k p)) (hy:ev L y=some (.int k q)):Yl P n B w0 (.binOp .mul t x y u) ty L R (.int k (k.wrap (p*q))):=by
 intro a w o ho _ hs _;simp[execOp,ho,binOp,eqGuard,hs.ev hx,hs.ev hy,Op.intArith]
theorem zI {p:Int} (h: -9223372036854775808<=p/\p<=9223372036854775807):IntKind.i64.wrap p=p:=by rw[Bp];omega
theorem dK {x y:Operand} {t u:TypeId} {p q:Int} (hx:ev L x=some (.int .i64 p)) (hy:ev L y=some (.int .i64 q)) (h: -9223372036854775808<=p+q/\p+q<=9223372036854775807:=by omega):Yl P n B w0 (.binOp .add t x y u) ty L R (.int .i64 (p+q)):=by
 have:=aOf (P:=P) (n:=n) (B:=B) (w0:=w0) (R:=R) (ty:=ty) (t:=t) (u:=u) hx hy;rwa[zI h] at this
theorem nG {x y:Operand} {t u:TypeId} {p q:Int} (hx:ev L x=some (.int .i64 p)) (hy:ev L y=some (.int .i64 q)) (h: -9223372036854775808<=p-q/\p-q<=9223372036854775807:=by omega):Yl P n B w0 (.binOp .sub t x y u) ty L R (.int .i64 (p-q)):=by
 have:=bBg (P:=P) (n:=n) (B:=B) (w0:=w0) (R:=R) (ty:=ty) (t:=t) (u:=u) hx hy;rwa[zI h] at this
theorem iW {x y:Operand} {t u:TypeId} {p q:Int} (hx:ev L x=some (.int .i64 p)) (hy:ev L y=some (.int .i64 q)) (h: -9223372036854775808<=p*q/\p*q<=9223372036854775807:=by omega):Yl P n B w0 (.binOp .mul t x y u) ty L R (.int .i64 (p*q)):=by
 have:=bBj (P:=P) (n:=n) (B:=B) (w0:=w0) (R:=R) (ty:=ty) (t:=t) (u:=u) hx hy;rwa[zI h] at this
theorem xZ {x y:Operand} {t u:TypeId} {k:IntKind} {p q:Int} (hx:ev L x=some (.int k p)) (hy:ev L y=some (.int k q)) (h0:0<=p:=by omega) (h:0<q:=by omega):Yl P n B w0 (.binOp .rem t x y u) ty L R (.int k (p%q)):=by
 intro a w o ho _ hs _;have h1: ¬q=0:=G
 simp[execOp,ho,binOp,eqGuard,hs.ev hx,hs.ev hy,Op.intDiv,h1,Int.tmod_eq_emod_of_nonneg h0]
theorem bBh {x y:Operand} {t u:TypeId} {k:IntKind} {p q:Int} (hx:ev L x=some (.int k p)) (hy:ev L y=some (.int k q)) (h0:0<=p) (h:0<q):Yl P n B w0 (.binOp .quo t x y u) ty L R (.int k (k.wrap (p/q))):=by
 intro a w o ho _ hs _;have h1: ¬q=0:=G
 simp[execOp,ho,binOp,eqGuard,hs.ev hx,hs.ev hy,Op.intDiv,h1,Int.tdiv_eq_ediv_of_nonneg h0]
theorem CY {x y:Operand} {t u:TypeId} {p q:Int} (hx:ev L x=some (.int .i64 p)) (hy:ev L y=some (.int .i64 q)) (h0:0<=p) (h:0<q) (hm:p<=9223372036854775807):Yl P n B w0 (.binOp .quo t x y u) ty L R (.int .i64 (p/q)):=by
 have:=bBh (P:=P) (n:=n) (B:=B) (w0:=w0) (R:=R) (ty:=ty) (t:=t) (u:=u) hx hy h0 h;have h1:p/q<=p:=Es q h0;have h2:0<=p/q:=Gb h0 G;rwa[zI G] at this
theorem dH {x:Operand} {t:TypeId} {b:Bool} (hx:ev L x=some (.bool b)):Yl P n B w0 (.unOp .not t x) ty L R (.bool !b):=by
 intro a w o ho _ hs _;simp[execOp,ho,hs.ev hx,Op.unary]
theorem uU {x:Operand} {t:TypeId} {p:Prop} [Decidable p] (hx:ev L x=some (.bool (decide p))):Yl P n B w0 (.unOp .not t x) ty L R (.bool (decide (¬p))):=by
 have:=dH (P:=P) (n:=n) (B:=B) (w0:=w0) (R:=R) (ty:=ty) (t:=t) hx;rwa[show(!decide p)=decide (¬p) by simp] at this
theorem qF {x:Operand} {s d:TypeId} {k j:IntKind} {p:Int} {td:TypeDesc} (eh:P.underlying s=some td) (hd:P.underlying d=some (.int k)) (hx:ev L x=some (.int j p)):Yl P n B w0 (.convert s d x) ty L R (.int k (k.wrap p)):=by
 intro a w o ho _ hs _;simp[execOp,ho,convert,mo eh,mo hd,hs.ev hx,Conv.intToInt]
theorem jJ {x:Operand} {s d:TypeId} {j:IntKind} {p:Int} {td:TypeDesc} (eh:P.underlying s=some td) (hd:P.underlying d=some (.int .i64)) (hx:ev L x=some (.int j p)) (h: -9223372036854775808<=p/\p<=9223372036854775807:=by omega):Yl P n B w0 (.convert s d x) ty L R (.int .i64 p):=by
 have:=qF (P:=P) (n:=n) (B:=B) (w0:=w0) (R:=R) (ty:=ty) eh hd hx;rwa[zI h] at this
end
end Go.Eng
namespace Go.Eng
open Go Go.RowKit
def pat (A:AF) (j:Nat):AF:=A.map (·.add j)
theorem add_add (a:Addr) (i j:Nat):(a.add i).add j=a.add (i+j):=by
 unfold Addr.add;by_cases h1:i=0<;>by_cases h2:j=0<;>simp[h1,h2,qi]
theorem AV (A:AF):pat A 0=A:=by cases A<;>simp[pat,Addr.add]
def rd (l:AH) (i:Int):Int:=l.getD i.toNat 0
def ints (k:IntKind) (l:AH):AG:=l.map (Value.int k)
theorem bO (k:IntKind) (l:AH):(ints k l).length=l.length:=by simp[ints]
theorem ints_at {k:IntKind} {l:AH} {i:Int} (h0:0<=i) (h:i<l.length):(ints k l)[i.toNat]? =some (.int k (rd l i)):=by
 have hl:i.toNat<l.length:=G
 simp[ints,rd,af,av hl]
def NC:TypeDesc->Bool
 | .struct _=>true
 | .array _ _=>true
 |_=>false
section
variable {P:Program} {n:Nd} {B:Nat} {w0:World} {L:Env} {R:List Row} {ty:TypeId}
theorem PC {t:TypeId} {d:TypeDesc} (hu:P.underlying t=some d) (w:World):(isAgg t).run P w= .ok (NC d) w:=by
 simp only[isAgg,jl,mo hu,jo];cases d<;>rfl
theorem Rd.cell {w:World} {A:AF} {m c sz:Nat} {xs:AG} (h:Rd w A m c sz xs) {j:Nat} {v:Value} (hv:xs[j]? =some v): ∃a,pat A j=some a/\w.cell? a=some v:=by
 obtain⟨a,rfl,hc⟩:=h.at_ j v hv;exact⟨_,rfl,hc⟩
theorem tO {x ix:Operand} {t e:TypeId} {k:IntKind} {A:AF} {m c sz:Nat} {i:Int} {xs:AG} (ht:P.underlying t=some (.slice e)) (hi:(P.info? e).map (·.size)=some sz) (hx:ev L x=some (.slice A m c)) (uv:ev L ix=some (.int k i))
  (hr:RdC B w0 R A m c sz xs) (hsz:Nat.blt 0 sz=true) (h0:0<=i:=by omega) (h1:i<m:=by omega):Yl P n B w0 (.indexAddr t x ix) ty L R (.pointer (pat A (i.toNat*sz))):=by
 intro a w o ho _ hs hp;have jp:=hr w hp;obtain⟨i0,bb,hsz0⟩:=iy.1 hi
 have bo:i.toNat*sz<xs.length:=by
  rw[jp.len];exact Nat.mul_lt_mul_of_pos_right G (ak hsz)
 obtain⟨ad,rfl,_⟩:=jp.at_ (i.toNat*sz) xs[i.toNat*sz] (by simp[bo]);simp[execOp,ho,Instr.indexAt,hs.ev hx,hs.ev uv,asIntOf,mo ht,h0,h1,sizeOf,typeInfo,bb,hsz0,pat]
theorem aG {x ix:Operand} {t e:TypeId} {k:IntKind} {A:AF} {m c:Nat} {i:Int} {xs:AG} (ht:P.underlying t=some (.slice e)) (hi:(P.info? e).map (·.size)=some 1) (hx:ev L x=some (.slice A m c)) (uv:ev L ix=some (.int k i))
  (hr:RdC B w0 R A m c 1 xs) (h0:0<=i:=by omega) (h1:i<m:=by omega):Yl P n B w0 (.indexAddr t x ix) ty L R (.pointer (pat A i.toNat)):=by
 have:=tO (n:=n) (ty:=ty) ht hi hx uv hr rfl h0 h1;rwa[qg] at this
theorem IJ {x ix:Operand} {t e:TypeId} {k:IntKind} {p A:AF} {m c sz sz' N j0:Nat} {i:Int} {xs:AG} (ht:P.underlying t=some (.array N e)) (hi:(P.info? e).map (·.size)=some sz) (hx:ev L x=some (.pointer p)) (Ms:p=pat A j0) (uv:ev L ix=some (.int k i))
  (hr:RdC B w0 R A m c sz' xs) (bo:j0<xs.length) (h0:0<=i) (h1:i<N):Yl P n B w0 (.indexAddr t x ix) ty L R (.pointer (pat A (j0+i.toNat*sz))):=by
 intro a w o ho _ hs hp;have jp:=hr w hp;obtain⟨i0,bb,hsz0⟩:=iy.1 hi;obtain⟨ad,rfl,_⟩:=jp.at_ j0 xs[j0] (by simp[bo]);subst Ms;simp[execOp,ho,Instr.indexAt,Instr.sureAddr,hs.ev hx,hs.ev uv,asIntOf,mo ht,h0,h1,sizeOf,typeInfo,bb,hsz0,pat,add_add]
theorem pI {x:Operand} {t:TypeId} {d:TypeDesc} {p A:AF} {j m c sz:Nat} {xs:AG} {v:Value} (hu:P.underlying t=some d) (hd:NC d=false) (hx:ev L x=some (.pointer p)) (hp:p=pat A j) (hr:RdC B w0 R A m c sz xs) (hv:xs[j]? =some v):
  Yl P n B w0 (.load t x) ty L R v:=by
 intro a w o ho _ hs hw;obtain⟨ad,h1,h2⟩:=(hr w hw).cell hv;subst hp;simp[execOp,ho,Instr.loadAt,Instr.sureAddr,hs.ev hx,h1,loadVar,PC hu,hd,h2]
theorem aW {x:Operand} {t:TypeId} {d:TypeDesc} {A:AF} {m c:Nat} {k:IntKind} {l:AH} {i:Int} (hu:P.underlying t=some d) (hd:NC d=false) (hx:ev L x=some (.pointer (pat A i.toNat))) (hr:RdC B w0 R A m c 1 (ints k l)) (h0:0<=i:=by omega) (h1:i<m:=by omega):
  Yl P n B w0 (.load t x) ty L R (.int k (rd l i)):=by
 intro a w o ho Iv hs hw;have hl:=(hr w hw).len;rw[bO] at hl;exact pI hu hd hx rfl hr (ints_at h0 G) a w o ho Iv hs hw
theorem aOb {x:Operand} {t:TypeId} {d:TypeDesc} {p A:AF} {j m c sz st:Nat} {xs:AG} (hu:P.underlying t=some d) (hd:NC d=true) (ff:(P.info? t).map (·.size)=some st) (hx:ev L x=some (.pointer p)) (hp:p=pat A j) (hr:RdC B w0 R A m c sz xs) (hj:j+st<=xs.length) (Hv:0<st):
  Yl P n B w0 (.load t x) ty L R (.agg ((xs.drop j).take st).toArray):=by
 intro a w o ho _ hs hw;have jp:=hr w hw;obtain⟨i0,bb,hsz0⟩:=iy.1 ff;obtain⟨ad,rfl,_⟩:=jp.at_ j xs[j] cD;subst hp
 have hc:(loadCells (ad.add j) st).run P w= .ok ((xs.drop j).take st).toArray w:=by
  have:=run_loadCells_list (P:=P) w (ad.add j) ((xs.drop j).take st) (λq v hq=>by
   have Rk:xs[j+q]? =some v:=by
    rw[pg] at hq;split at hq
    ·simpa using hq
    ·cases hq
   obtain⟨a',nb,hc⟩:=jp.at_ _ _ Rk;obtain rfl:=jd nb
   rw[add_add];exact hc)
  have hl:((xs.drop j).take st).length=st:=cG
  rwa[hl] at this
 simp[execOp,ho,Instr.loadAt,Instr.sureAddr,hs.ev hx,pat,loadVar,PC hu,hd,sizeOf,typeInfo,bb,hsz0,hc]
theorem UU {x:Operand} {t:TypeId} {fs:Array Field} {f:Field} {k st:Nat} {a0:Addr} (hu:P.underlying t=some (.struct fs)) (hf:fs[k]? =some f) (ff:(P.info? f.type).map (·.size)=some st) (Hv:Nat.blt 0 st=true) (hx:ev L x=some (.pointer (some a0))):
  Yl P n B w0 (.fieldAddr t x k) ty L R (.pointer (some (a0.add f.offset))):=by
 intro a w o ho _ hs _;obtain⟨i0,bb,hsz0⟩:=iy.1 ff;have: ¬st=0:=by have:=ak Hv;omega
 simp[execOp,ho,Instr.fieldAt,Instr.sureAddr,hs.ev hx,mo hu,hf,fieldPlace,sizeOf,typeInfo,bb,hsz0,this]
theorem aF {x:Operand} {a0:Addr} (hx:ev L x=some (.pointer (some a0))):Yl P n B w0 (.nilCheck x) ty L R (.pointer (some a0)):=by
 intro a w o ho _ hs _;simp[execOp,ho,hs.ev hx]
theorem CZ {x:Operand} {i:Nat} {vs:Array Value} {v:Value} (hx:ev L x=some (.tuple vs)) (hv:vs[i]? =some v):Yl P n B w0 (.extract x i) ty L R v:=by
 intro a w o ho _ hs _;simp[execOp,ho,hs.ev hx,Instr.extract,hv]
def evs (L:Env):List Operand->Option (AG)
 |[]=>some []
 |x::r=>match ev L x,evs L r with
  |some v,some vs=>some (v::vs)
  |_,_=>none
theorem Sat.evs {a:Act} (hs:Sat n L a): ∀ {xs:List Operand} {vs:AG},evs L xs=some vs->xs.map a.eval=vs
 |[],vs,h=>by simpa [Eng.evs] using h
 | x::r,vs,h=>by
  unfold Eng.evs at h;split at h
  ·rename_i v us h1 h2;obtain rfl:=jd h;rw[jq,hs.ev h1,hs.evs h2]
  ·cases h
theorem lM {fn:Fn} {ps cs:List Operand} {vs us:AG} (h1:evs L ps=some vs) (h2:evs L cs=some us):Yl P n B w0 (.makeFunc fn ps.toArray cs.toArray) ty L R (.func fn vs.toArray us.toArray):=by
 intro a w o ho _ hs _;have e1:=hs.evs h1;have e2:=hs.evs h2;simp[execOp,ho,Instr.makeFunc,e1,e2]
def jD (A:AF) (l c sz:Nat):AF:=if c=l then A else A.map (·.add (l*sz))
theorem bDt {w:World} {A:AF} {m sz c l h:Nat} {xs:AG} (hr:Rd w A m c sz xs) (h1:l<=h) (h2:h<=m):Rd w (jD A l c sz) (h-l) (c-l) sz ((xs.drop (l*sz)).take ((h-l)*sz)):=by
 have hc:=hr.le;have e1:h*sz=l*sz+(h-l)*sz:=by rw[<-yg];congr 1;omega
 have e2:h*sz<=m*sz:=ul _ h2;refine⟨?_,by have:=hr.max;omega,G,λj v hv=> ?_⟩
 ·rw[ax,bn,hr.len];omega
 ·rw [pg] at hv;split at hv
  ·rename_i hj;have Rp:xs[l*sz+j]? =some v:=by simpa using hv
   obtain⟨a,rfl,tz⟩:=hr.at_ _ _ Rp;unfold jD;by_cases ki:c=l
   ·have:h=l:=G
    subst this;simp at hj
   ·rw [df ki];exact⟨_,rfl,by rw[add_add];exact tz⟩
  ·cases hv
theorem RdC.cut {A:AF} {m sz c l h:Nat} {xs:AG} (hr:RdC B w0 R A m c sz xs) (h1:l<=h) (h2:h<=m):RdC B w0 R (jD A l c sz) (h-l) (c-l) sz ((xs.drop (l*sz)).take ((h-l)*sz)):=
 λw hw=>bDt (hr w hw) h1 h2
theorem RdC.cutI {A:AF} {m c l h:Nat} {k:IntKind} {xs:AH} (hr:RdC B w0 R A m c 1 (ints k xs)) (h1:l<=h) (h2:h<=m):RdC B w0 R (jD A l c 1) (h-l) (c-l) 1 (ints k ((xs.drop l).take (h-l))):=by
 have:=hr.cut h1 h2;simpa [ints,Cg,Ip] using this
theorem RdC.fromI {A:AF} {m c l:Nat} {k:IntKind} {xs:AH} (hr:RdC B w0 R A m c 1 (ints k xs)) (h1:l<=m):RdC B w0 R (jD A l c 1) (m-l) (c-l) 1 (ints k (xs.drop l)):=by
 intro w hw;have:=hr.cutI h1 (dn m) w hw;have hl:=(hr w hw).len;rw[bO] at hl;rwa[bi (by rw[bn];omega)] at this
theorem RdC.to {A:AF} {m c h sz:Nat} {xs:AG} (hr:RdC B w0 R A m c sz xs) (h2:h<=m):RdC B w0 R A h c sz (xs.take (h*sz)):=by
 intro w hw;have jp:=hr w hw;have hl:=jp.len;have mw:h*sz<=m*sz:=ul _ h2;refine⟨by rw[ax];omega,by have:=jp.max;omega,by have:=jp.le;omega,λj v hv=> ?_⟩;refine jp.at_ j v ?_;rw[pg] at hv;split at hv
 ·exact hv
 ·cases hv
theorem RdC.toI {A:AF} {m h c:Nat} {k:IntKind} {xs:AH} (hr:RdC B w0 R A m c 1 (ints k xs)) (h2:h<=m):RdC B w0 R A h c 1 (ints k (xs.take h)):=by
 have:=hr.to h2;simpa [ints,Cg] using this
theorem aEx {x y z:Operand} {t e:TypeId} {A:AF} {m c sz:Nat} {k1 k2:IntKind} {l h:Int} (ht:P.underlying t=some (.slice e)) (hi:(P.info? e).map (·.size)=some sz) (hx:ev L x=some (.slice A m c)) (hy:ev L y=some (.int k1 l)) (hz:ev L z=some (.int k2 h)) {xs:AG} (hr:RdC B w0 R A m c sz xs) (h0:0<=l) (h1:l<=h) (h2:h<=m):
  Yl P n B w0 (.slice t x (some y) (some z) none) ty L R (.slice (jD A l.toNat c sz) (h.toNat-l.toNat) (c-l.toNat)):=by
 intro a w o ho _ hs hp;have mw:=(hr w hp).le;obtain⟨i0,bb,hsz0⟩:=iy.1 hi;have sg:P.elem t=e:=by simp[Program.elem,ht]
 have px:P.underlying t=some (.slice (P.elem t)):=by rw[sg];exact ht
 simp only[execOp,ho,jy,Az,hs.ev hx,hs.ev hy,hs.ev hz,jl,zx w t _ _ _ _ px,run_slice_lh w t A m c px k1 k2 l h h0 h1 G,sg];simp[sizeOf,typeInfo,bb,hsz0,sliced,jD]
theorem fJ {x y:Operand} {t e:TypeId} {A:AF} {m c sz:Nat} {k1:IntKind} {l:Int} (ht:P.underlying t=some (.slice e)) (hi:(P.info? e).map (·.size)=some sz) (hx:ev L x=some (.slice A m c)) (hy:ev L y=some (.int k1 l)) (h0:0<=l:=by omega) (h1:l<=m:=by omega):
  Yl P n B w0 (.slice t x (some y) none none) ty L R (.slice (jD A l.toNat c sz) (m-l.toNat) (c-l.toNat)):=by
 intro a w o ho _ hs _;obtain⟨i0,bb,hsz0⟩:=iy.1 hi;have sg:P.elem t=e:=by simp[Program.elem,ht]
 have px:P.underlying t=some (.slice (P.elem t)):=by rw[sg];exact ht
 simp only[execOp,ho,jy,Az,hs.ev hx,hs.ev hy,jl,zx w t _ _ _ _ px,run_slice_l w t A m c px k1 l h0 h1,sg];simp[sizeOf,typeInfo,bb,hsz0,sliced,jD]
theorem gK {x z:Operand} {t e:TypeId} {A:AF} {m c sz:Nat} {k2:IntKind} {h:Int} (ht:P.underlying t=some (.slice e)) (hi:(P.info? e).map (·.size)=some sz) (hx:ev L x=some (.slice A m c)) (hz:ev L z=some (.int k2 h)) {xs:AG} (hr:RdC B w0 R A m c sz xs) (h0:0<=h:=by omega) (h2:h<=m:=by omega):
  Yl P n B w0 (.slice t x none (some z) none) ty L R (.slice A h.toNat c):=by
 intro a w o ho _ hs hp;have mw:=(hr w hp).le;obtain⟨i0,bb,hsz0⟩:=iy.1 hi;have sg:P.elem t=e:=by simp[Program.elem,ht]
 have px:P.underlying t=some (.slice (P.elem t)):=by rw[sg];exact ht
 simp only[execOp,ho,jy,Az,hs.ev hx,hs.ev hz,jl,zx w t _ _ _ _ px,run_slice_h w t A m c px k2 h h0 G,sg]
 have:(if c=0 then A else Option.map (λx=>x.add 0) A)=A:=by
  split
  ·rfl
  ·exact AV A
 simp[sizeOf,typeInfo,bb,hsz0,sliced,this]
def Enters (P:Program) (f:FuncId):Prop:= ∀args w,(callFunc f args).run P w= .ok (.enter f args) w
theorem enters {f:FuncId} {fn:Func} (hf:P.funcs[f]? =some fn) (h1:(fn.name== "runtime.NumGoroutine")=false) (h2:fn.body.isNone=false):Enters P f:=by
 intro args w;unfold callFunc;simp only[program,jl,Sem.run,jo,hf];simp[h1,h2]
theorem zC {cal:Operand} {An:List Operand} {ts:Array TypeId} {f:FuncId} {ps cs:Array Value} {vs:AG} {Post:Value->List Row->Prop} (he:Enters P f) (hf:ev L cal=some (.func (.func f) ps cs)) (ha:evs L An=some vs) (hc:Ct P f (ps++vs.toArray++cs) B w0 R Post):
  Ac P n B w0 (.call {callee:= .value cal,args:=An.toArray,argTypes:=ts}) ty L R Post:=by
 intro a w o K Q ho _ hs hp hk;have e1:=hs.evs ha;unfold Oper.wp;simp only[execOp,ho,resolve,hs.ev hf,Deferred.ofValue,invoke,jl,nu,jo,tq,e1,he (ps++vs.toArray++cs) w,Oper.upon];refine(hc w hp).mono ?_;rintro e w' ⟨v,R',rfl,cv,hv⟩;exact hk v w' R' cv hv
theorem aC {f:FuncId} {An:List Operand} {ts:Array TypeId} {vs:AG} {Post:Value->List Row->Prop} (he:Enters P f) (ha:evs L An=some vs) (hc:Ct P f vs.toArray B w0 R Post):
  Ac P n B w0 (.call {callee:= .value (.func f),args:=An.toArray,argTypes:=ts}) ty L R Post:=
 zC (ps:= #[]) (cs:= #[]) he rfl ha (by simpa using hc)
end
end Go.Eng
namespace Go.Eng
open Go Go.RowKit
section
variable {P:Program} {n:Nd} {B:Nat} {w0:World} {L:Env} {R:List Row} {ty:TypeId}
theorem Row.lies_nil (B:Nat) (w:World) (e sz:Nat):(Row.mk e sz none 0 0 [] false).lies B w:=World.ownsRow_nil w B e sz
theorem Hp.nil {w:World} (h:Hp B w0 w R) (e sz:Nat):Hp B w0 w (⟨e,sz,none,0,0,[],false⟩::R):=
 ⟨h.below,h.base,λr hr=>by
  rcases iw.1 hr with rfl|hr
  ·exact Row.lies_nil B w e sz
  ·exact h.own r hr,il.2 ⟨λr _ a a' ha _=>(by cases ha),h.apart⟩,h.late⟩
theorem Hp.new {w:World} (h:Hp B w0 w R) (cs:Array Value) (e m sz:Nat) (hm:m<=maxLen) (hs:cs.size=m*sz):Hp B w0 (w.alloc (.cells cs e)) (⟨e,sz,some ⟨w.heap.size,0,none⟩,m,m,cs.toList,false⟩::R):=by
 refine h.join (Rn:=[_]) ⟨(Er _ _).alloc (dn _) _,cD,λr hr=> ?_,rz _ _,Late.alloc _ _⟩;obtain rfl:=jb.1 hr;exact World.ownsRow_lit w cs m (dn _) hm hs
theorem Hp.upd {w w':World} (h:Hp B w0 w R) {i:Nat} {r r':Row} (hi:R[i]? =some r) {row:Option Nat} (hg:w.grownBy w' row) (hd:w.drawn<=w'.drawn) (fm: ∀k,row=some k-> ∃a,r.A=some a/\a.block=k) (hl:r'.lies B w')
  (hb: ∀a',r'.A=some a'->(∃a,r.A=some a/\a.block=a'.block)\/w.heap.size<=a'.block):Hp B w0 w' (R.set i r'):=by
 have hr:r∈R:=gq hi;have xv:i<R.length:=(gm.1 hi).1
 have keep: ∀(q:Row),q.lies B w->(∀a,q.A=some a-> ∀a',r.A=some a'->a.block≠a'.block)->q.lies B w':=by
  intro q hq cg;refine Row.lies_of_block hq λa ha=> ?_;refine hg.block a.block (Row.lies_lt hq a ha).2 λe=> ?_;obtain⟨a',nb,hk⟩:=fm _ e.symm;exact cg a ha a' nb hk.symm
 refine⟨h.below.grown hg h.base (λk hk=> ?_),ry h.base hg.size,λq hq=> ?_,?_,h.late.trans ⟨hd,λk o hk hc=> ?_⟩⟩
 ·obtain ⟨a,ha,rfl⟩:=fm k hk;exact(Row.lies_lt (h.own r hr) a ha).1
 ·obtain ⟨j,hj⟩:=List.mem_iff_getElem?.1 hq;rw[wz] at hj;by_cases pe:i=j
  ·rw [di pe] at hj;rw[di xv] at hj;obtain rfl:=jd hj;exact hl
  ·rw [df pe] at hj;refine keep q (h.own q (gq hj)) ?_;intro a ha a' nb;have r7:=(gm.1 hj).1;have To:=(gm.1 hj).2;have d9:=(gm.1 hi).2;rcases Cx pe with bo|bo
   ·have:=dz.1 h.apart i j xv r7 bo;rw[To,d9] at this;exact Ic (this a' a nb ha)
   ·have:=dz.1 h.apart j i r7 xv bo;rw[To,d9] at this;exact this a a' ha nb
 ·have Qp: ∀j (hj:j<R.length),i≠j->r'.apart R[j]:=by
   intro j hj pe a' aj nb Wf;have hlj:=Row.lies_lt (h.own R[j] (ky hj)) aj Wf;rcases hb a' nb with⟨a,ha,e⟩|Fo
   ·have d9:=(gm.1 hi).2;rw[<-e];rcases Cx pe with bo|bo
    ·have:=dz.1 h.apart i j xv hj bo;rw[d9] at this;exact this a aj ha Wf
    ·have:=dz.1 h.apart j i hj xv bo;rw[d9] at this;exact Ic (this aj a Wf ha)
   ·omega
  refine dz.2 λp q hp hq hpq=> ?_;simp only[Gh] at hp hq;by_cases h1:i=p
  ·subst h1;rw[List.getElem_set_self,Cc G];exact Qp q hq G
  ·by_cases h2:i=q
   ·subst h2;rw[List.getElem_set_self,Cc h1];exact Row.apart_symm (Qp p hp G)
   ·rw [Cc h1,Cc h2];exact dz.1 h.apart p q hp hq hpq
 ·rw [hg.block k (gp.1 hk).1 λe=> ?_]
  ·exact hk
  ·obtain ⟨a,ha,rfl⟩:=fm k e.symm;obtain⟨cs,e',fr,da⟩:=Row.lies_cells (h.own r hr) ha;rw[da] at hk;cases hk;cases hc
theorem World.grownBy_refl' (w:World) (row:Option Nat):w.grownBy w row:=⟨rfl,rfl,rfl,dn _,λ_ _ _=>rfl⟩
theorem Row.lies_w {w:World} {r:Row} (h:r.lies B w) (mt:r.ro=false):w.ownsRow B r.e r.sz (.slice r.A r.n r.c) r.n r.xs:=by
 unfold Row.lies at h;simpa only[mt] using h
theorem bFq {x y:Operand} {t e:TypeId} {z:Value} {bytes m:Nat} (ht:P.underlying t=some (.slice e)) (dq:(P.info? e).map (λi=>(i.zero,i.size,i.bytes))=some (some z,1,bytes)) (hz:z.cells= #[z])
  (hx:ev L x=some (.int .i64 (m:Int))) (hy:ev L y=some (.int .i64 (m:Int))) (hm:m*bytes<=281474976710656) (Kx:m<=9223372036854775807):
  Ac P n B w0 (.makeSlice t x y) ty L R (λv R'=> ∃g,v= .slice (some ⟨g,0,none⟩) m m/\R'=⟨e,1,some ⟨g,0,none⟩,m,m,List.replicate m z,false⟩::R):=by
 intro a w o K Q ho _ hs hp hk;obtain⟨i0,hi,yp⟩:=iy.1 dq;simp only[zz] at yp;obtain⟨wj,wk,w7⟩:=yp
 have hb:(i0.bytes:Int)*(m:Int)<=281474976710656:=by
  have h:((m*bytes:Nat):Int)<=281474976710656:=G
  rw[w7,Dn];rwa[Av] at h
 have hr:=run_make (P:=P) w t e i0 z ht hi wj .i64 .i64 m m G (lq _) hb G;simp only[bq,wk,qg,hz] at hr;unfold Oper.wp;simp only[execOp,ho,hs.ev hx,hs.ev hy,jl,hr,jo,nu,Oper.upon];have hh:=hp.new (madeCells #[z] m) e m 1 (by unfold maxLen;omega) (by simp[size_madeCells]);rw[toList_madeCells_one] at hh;exact hk _ _ _ hh ⟨_,rfl,rfl⟩
theorem aIi {x y:Operand} {t e:TypeId} {z:Value} {bytes:Nat} {m:Int} (ht:P.underlying t=some (.slice e)) (dq:(P.info? e).map (λi=>(i.zero,i.size,i.bytes))=some (some z,1,bytes)) (hz:z.cells= #[z])
  (hx:ev L x=some (.int .i64 m)) (hy:ev L y=some (.int .i64 m)) (h0:0<=m) (hm:m*bytes<=281474976710656) (Kx:m<=9223372036854775807):
  Ac P n B w0 (.makeSlice t x y) ty L R (λv R'=> ∃g,v= .slice (some ⟨g,0,none⟩) m.toNat m.toNat/\R'=⟨e,1,some ⟨g,0,none⟩,m.toNat,m.toNat,List.replicate m.toNat z,false⟩::R):=by
 obtain⟨q,rfl⟩:=Int.eq_ofNat_of_zero_le h0;have h:((q*bytes:Nat):Int)<=281474976710656:=by rw[Av];exact hm
 have:=bFq (P:=P) (n:=n) (B:=B) (w0:=w0) (L:=L) (R:=R) (ty:=ty) (m:=q) ht dq hz hx hy G G;simpa only[bq] using this
theorem eH {e:TypeId} {z:Value} {sz:Nat} (dq:(P.info? e).map (·.zero)=some (some z)) (hz:z.cells.size=sz):Ac P n B w0 (.alloc e) ty L R (λv R'=> ∃g,v= .pointer (some ⟨g,0,none⟩)/\R'=⟨e,sz,some ⟨g,0,none⟩,1,1,z.cells.toList,false⟩::R):=by
 intro a w o K Q ho _ hs hp hk;obtain⟨i0,hi,wj⟩:=iy.1 dq;have hh:=hp.new z.cells e 1 sz (by unfold maxLen;omega) G;unfold Oper.wp
 have hr:(Instr.alloc e true (.tuple #[])).run P w= .ok (.pointer (some ⟨w.heap.size,0,none⟩)) (w.alloc (.cells z.cells e)):=by
  simp[Instr.alloc,zeroValue,typeInfo,hi,wj,newVar,newRow]
 simp only[execOp,ho,jl,hr,jo,nu,Oper.upon];exact hk _ _ _ hh ⟨_,rfl,rfl⟩
theorem dC {e:TypeId} {x:Operand} {v:Value} {sz:Nat} (hx:ev L x=some v) (hz:v.cells.size=sz):Ac P n B w0 (.box e x) ty L R (λu R'=> ∃g,u= .pointer (some ⟨g,0,none⟩)/\R'=⟨e,sz,some ⟨g,0,none⟩,1,1,v.cells.toList,false⟩::R):=by
 intro a w o K Q ho _ hs hp hk;have hh:=hp.new v.cells e 1 sz (by unfold maxLen;omega) G;unfold Oper.wp
 have hr:(Instr.box e v).run P w= .ok (.pointer (some ⟨w.heap.size,0,none⟩)) (w.alloc (.cells v.cells e)):=by
  simp[Instr.box,newVar,newRow]
 simp only[execOp,ho,hs.ev hx,jl,hr,jo,nu,Oper.upon];exact hk _ _ _ hh ⟨_,rfl,rfl⟩
def evp (L:Env):List (Nat × Operand)->Option (List (Nat × Value))
 |[]=>some []
 |(i,x)::r=>match ev L x,evp L r with
  |some v,some vs=>some ((i,v)::vs)
  |_,_=>none
theorem Sat.evp {a:Act} (hs:Sat n L a): ∀ {xs:List (Nat × Operand)} {vs:List (Nat × Value)},evp L xs=some vs->xs.map (λp=>(p.1,a.eval p.2))=vs
 |[],vs,h=>by simpa [Eng.evp] using h
 | (i,x)::r,vs,h=>by
  unfold Eng.evp at h;split at h
  ·rename_i v us h1 h2;obtain rfl:=jd h;rw[jq,hs.ev h1,hs.evp h2]
  ·cases h
theorem pU {t e:TypeId} {z:Value} {sz len:Nat} {ps:List (Nat × Operand)} {vs:List (Nat × Value)} {cells:Array Value} (ht:P.underlying t=some (.slice e)) (dq:(P.info? e).map (λi=>(i.zero,i.size))=some (some z,sz)) (hv:evp L ps=some vs)
  (pv:Nat.ble (len*sz) 16777216=true) (hl:Nat.ble len 16777216=true)
  (k7:Instr.fill (λi=>some (i*sz,sz)) ((Array.range (len*sz)).map ((bif Nat.beq (len*sz) 0 then #[] else z.cells)[· %(bif Nat.beq (len*sz) 0 then #[] else z.cells).size]!)) vs=some cells) (hc:cells.size=len*sz):
  Ac P n B w0 (.buildSlice t len ps.toArray) ty L R (λv R'=> ∃g,v= .slice (some ⟨g,0,none⟩) len len/\R'=⟨e,sz,some ⟨g,0,none⟩,len,len,cells.toList,false⟩::R):=by
 intro a w o K Q ho _ hs hp hk;obtain⟨i0,hi,yp⟩:=iy.1 dq;simp only[zz] at yp;obtain⟨wj,wk⟩:=yp;have Mw:=ak pv;have hlm:=ak hl;have Fl:=hs.evp hv
 have hr:(Instr.buildSlice t len (ps.toArray.map λp=>(p.1,a.eval p.2))).run P w= .ok (.slice (some ⟨w.heap.size,0,none⟩) len len) (w.alloc (.cells cells e)):=by
  have hns: ¬(16777216<len*sz):=G
  by_cases h0:len*sz=0
  ·have e0: ∀f:Nat->Value,Array.map f (Array.range 0)= #[]:=λf=>by simp[Array.range_zero']
   rw[h0,e0] at k7;simp[Instr.buildSlice,mo ht,sizeOf,typeInfo,hi,wk,h0,Fl,newRow,k7,e0]
  ·have hb:Nat.beq (len*sz) 0=false:=by
    cases hb:Nat.beq (len*sz) 0 with
    |true=>exact absurd (xq hb) h0
    |false=>rfl
   simp only[hb,cond_false] at k7;simp[Instr.buildSlice,mo ht,sizeOf,typeInfo,hi,wk,h0,zeroValue,wj,newRow,Fl,k7,hns]
 unfold Oper.wp;simp only[execOp,ho,jl,hr,jo,nu,Oper.upon];exact hk _ _ _ (hp.new cells e len sz (by unfold maxLen;omega) hc) ⟨_,rfl,rfl⟩
theorem aOx (l vs:AG) (j k:Nat) (h1:j+vs.length<=k) (h2:k<=l.length):(l.take j++vs++l.drop (j+vs.length)).take k=(l.take k).take j++vs++(l.take k).drop (j+vs.length):=by
 apply uj;intro i;simp only[pg,List.getElem?_append,ai,ax,su];have e1:min j l.length=j:=G
 have e2:min j (min k l.length)=j:=G
 rw[e1,e2];by_cases hi:i<k
 ·by_cases hj:i<j
  ·simp[hi,hj,show i<j+vs.length by omega]
  ·by_cases hv:i<j+vs.length
   ·simp[hi,hj,hv]
   ·have:j+vs.length+(i-(j+vs.length))=i:=G
    simp[hi,hv,this]
 ·have h4: ¬i<j+vs.length:=G
  have:j+vs.length+(i-(j+vs.length))=i:=G
  simp[hi,h4,this]
theorem Row.lies_seg {w:World} {r:Row} (h:r.lies B w) (mt:r.ro=false) {g:Nat} (hA:r.A=some ⟨g,0,none⟩) (j:Nat) (vs:AG) (hj:j+vs.length<=r.xs.length) (h1: ∀v∈vs,v.oneCell'=true) {t:TypeId} {v:Value} (hv:v.cells.toList=vs) (ff:(P.info? t).map (·.size)=some vs.length):
  ∃w',(storeVar t ((⟨g,0,none⟩:Addr).add j) v).run P w= .ok () w'/\w.grownBy w' (some g)/\Row.lies B w' {r with xs:=r.xs.take j++vs++r.xs.drop (j+vs.length)}:=by
 have hw:=Row.lies_w h mt;rcases hw.2 with⟨hn,_⟩|⟨g',cap,cur,hs,hb,hg,hnc,pt,ie,ht⟩
 ·rw[hA] at hn;cases hn
 ·rw [hA] at hs;simp only[jv,lv,Bb,Ag,zy] at hs;obtain⟨rfl,rfl⟩:=hs;have My:r.xs.length=r.n*r.sz:=hw.1;have mw:r.n*r.sz<=cur.size:=by rw[ie];exact ul _ hnc
  have Ma:(⟨g,0,none⟩:Addr).add j=⟨g,j,none⟩:=by unfold Addr.add;split<;>simp_all
  have hr:=run_storeCells_at P g j r.e vs 0 cur w hg cG h1;simp only[qf] at hr;obtain⟨i0,bb,hsz0⟩:=iy.1 ff;have hvl:v.cells.size=vs.length:=by rw[<-jr,hv]
  refine⟨w.setRow g (cur.toList.take j++vs++cur.toList.drop (j+vs.length)).toArray,?_,⟨rfl,rfl,rfl,cD,λk _ hk=>Jy w g k _ (λe=>hk (by simp[e]))⟩,?_⟩
  ·rw [Ma];have cg: ¬(v.cells.size≠vs.length):=G
   simp only[storeVar,jl,sizeOf,typeInfo,program,Sem.run,jo,bb,nu,hsz0,cg,xg,hv];exact hr
  ·unfold Row.lies;simp only[mt];refine⟨?_, .inr ⟨g,r.c,_,by rw[hA],hb,Km w g cur _ r.e _ hg,hnc,pt,?_,?_⟩⟩
   ·simp only[ai,ax,bn];omega
   ·simp only[qb,ai,ax,bn,jr];omega
   ·simp only;rw[aOx _ _ _ _ G (by rw[jr];omega),ht]
theorem ND {x y:Operand} {t:TypeId} {p:AF} {j:Nat} {r:Row} {v:Value} {vs:AG} {g:Nat} (i:Nat) (hi:R[i]? =some r) (mt:r.ro=false) (hA:r.A=some ⟨g,0,none⟩) (ff:(P.info? t).map (·.size)=some vs.length) (hx:ev L x=some (.pointer p)) (cv:p=pat r.A j) (hy:ev L y=some v) (hv:v.cells.toList=vs) (h1: ∀v∈vs,v.oneCell'=true) (hj:j+vs.length<=r.xs.length):
  Ac P n B w0 (.store t x y) ty L R (λ_ R'=>R'=R.set i {r with xs:=r.xs.take j++vs++r.xs.drop (j+vs.length)}):=by
 intro a w o K Q ho _ hs hp hk;subst cv;obtain⟨w',hr,hg,hl⟩:=Row.lies_seg (P:=P) (hp.own r (gq hi)) mt hA j vs hj h1 hv ff;unfold Oper.wp;simp only[execOp,ho,Instr.storeAt,hs.ev hx,hs.ev hy,pat,hA,jy,Instr.sureAddr,jl,nu,jo,hr,Oper.upon];refine hk undef w' _ ?_ rfl;refine hp.upd hi hg (JL _ _ _ _ hr) (λk hk=> ?_) hl (λa' nb=> .inl ⟨a',nb,rfl⟩);obtain rfl:=jd hk;exact⟨_,hA,rfl⟩
theorem aXc (l:AG) (j:Nat) (v:Value) (h:j<l.length):l.take j++[v]++l.drop (j+1)=l.set j v:=by
 rw[Dk,di h];simp
theorem UJ {x y:Operand} {t:TypeId} {p:AF} {j:Nat} {r:Row} {v:Value} {g:Nat} (i:Nat) (hi:R[i]? =some r) (mt:r.ro=false) (hA:r.A=some ⟨g,0,none⟩) (ff:(P.info? t).map (·.size)=some 1) (hx:ev L x=some (.pointer p)) (cv:p=pat r.A j) (hy:ev L y=some v) (hv:v.cells.toList=[v]) (h1:v.oneCell'=true) (hj:j<r.xs.length):
  Ac P n B w0 (.store t x y) ty L R (λ_ R'=>R'=R.set i {r with xs:=r.xs.set j v}):=by
 have:=ND (P:=P) (n:=n) (B:=B) (w0:=w0) (ty:=ty) i hi mt hA (vs:=[v]) ff hx cv hy hv (by simpa using h1) (by rw[ii];omega);simpa only[ii,aXc _ _ _ hj] using this
theorem eY {s x:Operand} {t:TypeId} {z:Value} {bytes m c2:Nat} {A2:AF} {r:Row} {news:AG} (i:Nat) (hi:R[i]? =some r) (mt:r.ro=false) (ht:P.underlying t=some (.slice r.e)) (dq:(P.info? r.e).map (λi=>(i.zero,i.size,i.bytes))=some (some z,r.sz,bytes)) (hz:z.cells.size=r.sz) (hsz:Nat.blt 0 r.sz=true) (vu:Nat.blt 0 bytes=true)
  (hs:ev L s=some (.slice r.A r.n r.c)) (hx:ev L x=some (.slice A2 m c2)) (jp:RdC B w0 R A2 m c2 r.sz news) (h1: ∀u∈news,u.oneCell'=true) (iz:(r.n+m)*bytes<=140737488355328):
  Ac P n B w0 (.call {callee:= .builtin .append,args:= #[s,x],argTypes:= #[t,t]}) ty L R (λv R'=> ∃A' c',v= .slice A' (r.n+m) c'/\R'=R.set i ⟨r.e,r.sz,A',r.n+m,c',r.xs++news,false⟩):=by
 intro a w o K Q ho _ eh hp hk;obtain⟨i0,bb,yp⟩:=iy.1 dq;simp only[zz] at yp;obtain⟨wj,wk,w7⟩:=yp;have Qe:=ak hsz;have Yi:=ak vu;have hr:=hp.own r (gq hi);have fc:=Row.lies_w hr mt;have d5:=jp w hp;have hlen:r.n+m<=140737488355328:=ry (Nat.le_mul_of_pos_right _ Yi) iz
 have oa: ∃v' w',(Builtin.append_ #[t,t] o.type #[.slice r.A r.n r.c, .slice A2 m c2]).run P w= .ok v' w'/\w'.ownsRow B r.e r.sz v' (r.n+m) (r.xs++news)/\w.grownBy w' (Value.ownBlock (.slice r.A r.n r.c))/\(v'.ownBlock=Value.ownBlock (.slice r.A r.n r.c)\/v'.ownBlock=some w.heap.size):=by
  rcases fe m with h0|h0
  ·subst h0;have hn:news=[]:=dx (by rw[d5.len];omega);subst hn;rcases A2 with _|ad
   ·refine ⟨_,w,?_,by simpa using fc,World.grownBy_refl' w _, .inl rfl⟩;rcases fc.2 with⟨hv,hn⟩|⟨g,cap,cur,hv,_,_,hnc,_⟩
    ·rw [hv];simp[Builtin.append_,mo ht,sizeOf,typeInfo,bb,Builtin.lenOf,Builtin.firstCells]
    ·rw [hv];simp[Builtin.append_,mo ht,sizeOf,typeInfo,bb,Builtin.lenOf,Builtin.firstCells,hnc,storeCells]
   ·obtain ⟨v',w',h2,h3,h4,_,h5⟩:=run_append_own_at (P:=P) w B t o.type r.e i0 z r.sz bytes ht bb wj wk w7 hz Qe _ r.n r.xs fc ad 0 c2 [] cD (λj u hu=>by simp at hu) h1 (by unfold maxLen;omega) iz hp.base;exact⟨v',w',h2,h3,h4,h5⟩
  ·have cg:0<news.length:=by rw[d5.len];exact Ib h0 Qe
   obtain⟨ad,rfl,_⟩:=d5.at_ 0 news[0] cD
   obtain⟨v',w',h2,h3,h4,_,h5⟩:=run_append_own_at (P:=P) w B t o.type r.e i0 z r.sz bytes ht bb wj wk w7 hz Qe _ r.n r.xs fc ad m c2 news d5.len (λj u hu=>by
    obtain⟨a',nb,hc⟩:=d5.at_ j u hu;obtain rfl:=jd nb
    exact hc) h1 (by unfold maxLen;omega) iz hp.base
   exact⟨v',w',h2,h3,h4,h5⟩
 obtain⟨v',w',h2,h3,h4,h5⟩:=oa
 have Fm: ∃A' c',v'= .slice A' (r.n+m) c':=by
  rcases h3.2 with⟨rfl,hn⟩|⟨g,cap,cur,rfl,_⟩
  ·exact⟨none,0,by rw[hn]⟩
  ·exact⟨_,cap,rfl⟩
 obtain⟨A',c',rfl⟩:=Fm;unfold Oper.wp execOp;simp only[ho,resolve,invoke,builtin,jl,nu,jo,tq,jq,qo,eh.ev hs,eh.ev hx,h2,Oper.upon];refine hk _ w' _ ?_ ⟨A',c',rfl,rfl⟩;refine hp.upd hi h4 (JL _ _ _ _ h2) (λk hk=> ?_) ?_ (λa' nb=> ?_)
 ·cases hA:r.A with
  |none=>rw[hA] at hk;simp[Value.ownBlock] at hk
  |some a1=>rw[hA] at hk;simp only[Value.ownBlock,lv] at hk;exact⟨a1,rfl,hk⟩
 ·exact h3
 ·have Lz:A'=some a':=nb;subst Lz;rcases h5 with h5|h5
  ·cases hA:r.A with
   |none=>rw[hA] at h5;simp[Value.ownBlock] at h5
   |some a1=>rw[hA] at h5;simp only[Value.ownBlock,lv] at h5;exact .inl ⟨a1,rfl,h5.symm⟩
  ·simp only[Value.ownBlock,lv] at h5;exact .inr G
end
end Go.Eng
namespace Go.Eng
open Go Go.RowKit
def bH (P:Program) {α:Type} (m:Sem α):Prop:= ∀w w1 v,m.run P w= .ok v w1-> ∀w',m.run P w'= .ok v w'
def kX (P:Program) {α:Type} (m:Sem α):Prop:= ∀w w1 v,m.run P w≠ .ok v w1
section
variable {P:Program} {α β:Type}
theorem kX.free {m:Sem α} (h:kX P m):bH P m:=λw w1 v e=>absurd e (h w w1 v)
theorem bH.pure (a:α):bH P (Pure.pure a:Sem α):=λw w1 v h w'=>by
 simp only[nu,Co] at h ⊢;exact⟨h.1,trivial⟩
theorem bH.bind {m:Sem α} {f:α->Sem β} (hm:bH P m) (hf: ∀a,bH P (f a)):bH P (m>>=f):=λw w1 v h w'=>by
 rw[jl] at h ⊢;cases hr:m.run P w with
 |halt x w2=>rw[hr] at h;cases h
 |ok a w2=>
  rw[hr] at h;rw[hm w w2 a hr w'];exact hf a w2 w1 v h w'
theorem kX.bind {m:Sem α} {f:α->Sem β} (hf: ∀a,kX P (f a)):kX P (m>>=f):=λw w1 v h=>by
 rw[jl] at h;cases hr:m.run P w with
 |halt x w2=>rw[hr] at h;cases h
 |ok a w2=>
  rw[hr] at h;exact hf a w2 w1 v h
theorem kX.left {m:Sem α} {f:α->Sem β} (hm:kX P m):kX P (m>>=f):=λw w1 v h=>by
 rw[jl] at h;cases hr:m.run P w with
 |halt x w2=>rw[hr] at h;cases h
 |ok a w2=>exact hm w w2 a hr
theorem dG (x:Halt):kX P (.halt x:Sem α):=λw w1 v h=>by cases h
theorem vP (e:RuntimeError):kX P (runtimePanic e:Sem α):=by
 unfold runtimePanic;refine kX.bind λp=> ?_;cases e with
 |typeAssertion i c a m=>exact kX.bind λ_=>kX.bind λ_=>dG _
 |panicNil=>exact kX.bind λ_=>kX.bind λ_=>dG _
 |_=>exact dG _
theorem vX (t:TypeId):bH P (underlying t):=by
 unfold underlying;refine bH.bind (λw w1 v h w'=> ?_) λp=> ?_
 ·simp only[program,Sem.run,Co] at h ⊢;exact⟨h.1,trivial⟩
 ·split
  ·exact bH.pure _
  ·exact(dG _).free
theorem QG (t:TypeId):bH P (typeInfo t):=by
 unfold typeInfo;refine bH.bind (λw w1 v h w'=> ?_) λp=> ?_
 ·simp only[program,Sem.run,Co] at h ⊢;exact⟨h.1,trivial⟩
 ·split
  ·exact bH.pure _
  ·exact(dG _).free
theorem qC (t:TypeId):bH P (sizeOf t):=bH.bind (QG t) λ_=>bH.pure _
theorem nZ (x:Value) (y:Nat) (c:BoundsCode):bH P (Instr.sliceBound x y c):=by
 unfold Instr.sliceBound;refine bH.bind ?_ λp=> ?_
 ·unfold asIntOf;split
  ·exact bH.pure _
  ·exact(dG _).free
  ·exact(dG _).free
 ·obtain ⟨k,i⟩:=p;simp only;split
  ·exact bH.pure _
  ·unfold boundsPanic;dsimp only;split
   ·exact(kX.bind λ_=>vP _).free
   ·exact(kX.bind λ_=>vP _).free
theorem rQ (b:Bool) (n c:Nat) (lo hi mx:Option Value):bH P (Instr.sliceBounds b n c lo hi mx):=by
 unfold Instr.sliceBounds;cases mx with
 | none=>
  refine bH.bind (bH.pure _) λm=> ?_;cases hi with
  |none=>
   refine bH.bind (bH.pure _) λh=> ?_;cases lo with
   |none=>exact bH.bind (bH.pure _) λl=>bH.pure _
   |some v=>exact bH.bind (nZ _ _ _) λl=>bH.pure _
  |some u=>
   refine bH.bind (nZ _ _ _) λh=> ?_;cases lo with
   |none=>exact bH.bind (bH.pure _) λl=>bH.pure _
   |some v=>exact bH.bind (nZ _ _ _) λl=>bH.pure _
 | some x=>
  refine bH.bind (nZ _ _ _) λm=> ?_;cases hi with
  |none=>exact(kX.left (dG _)).free
  |some u=>
   refine bH.bind (nZ _ _ _) λh=> ?_;cases lo with
   |none=>exact bH.bind (bH.pure _) λl=>bH.pure _
   |some v=>exact bH.bind (nZ _ _ _) λl=>bH.pure _
theorem aLt (x:Value):bH P (asAddr x):=by
 unfold asAddr;split
 ·exact bH.pure _
 ·exact(vP _).free
 ·exact(dG _).free
theorem aDc (t:TypeId) (x:Value) (lo hi mx:Option Value):bH P (Instr.slice t x lo hi mx):=by
 unfold Instr.slice;refine bH.bind (vX t) λd=> ?_;split
 ·split
  ·exact(kX.left (dG _)).free
  ·exact bH.bind (rQ _ _ _ _ _ _) λ_=>bH.pure _
 ·exact bH.bind (rQ _ _ _ _ _ _) λ_=>bH.bind (qC _) λ_=>bH.pure _
 ·refine bH.bind (aLt _) λ_=>bH.bind (vX _) λ_=> ?_;split
  ·exact bH.bind (rQ _ _ _ _ _ _) λ_=>bH.bind (qC _) λ_=>bH.pure _
  ·exact(dG _).free
 ·exact(dG _).free
theorem aLr (x:Value):bH P (Instr.sureAddr x):=by
 unfold Instr.sureAddr;split
 ·exact bH.pure _
 ·exact(dG _).free
theorem TP (t:TypeId) (x:Value) (lo hi mx:Option Value):bH P (Instr.sliceAt t x lo hi mx):=by
 unfold Instr.sliceAt;refine bH.bind (vX t) λd=> ?_;split
 ·exact bH.bind (aLr _) λ_=>bH.bind (rQ _ _ _ _ _ _) λ_=>bH.bind (qC _) λ_=>bH.pure _
 ·exact aDc _ _ _ _ _
end
def bFt (P:Program) {α:Type} (m:Sem α):Prop:= ∀w v,m.run P w= .ok v w-> ∀w',m.run P w'= .ok v w'
def iQ (P:Program) {α:Type} (m:Sem α):Prop:= ∀w v,m.run P w≠ .ok v w
section
variable {P:Program} {α β:Type}
theorem bH.stay {m:Sem α} (h:bH P m):bFt P m:=λw v e=>h w w v e
theorem iQ.stay {m:Sem α} (h:iQ P m):bFt P m:=λw v e=>absurd e (h w v)
theorem kX.noSame {m:Sem α} (h:kX P m):iQ P m:=λw v e=>h w w v e
theorem iQ.bind {m:Sem α} {f:α->Sem β} (hm:bH P m) (hf: ∀a,iQ P (f a)):iQ P (m>>=f):=λw v h=>by
 rw[jl] at h;cases hr:m.run P w with
 |halt x w2=>rw[hr] at h;cases h
 |ok a w2=>
  have h2:=hm w w2 a hr w;rw[hr] at h2;cases h2;rw[hr] at h;exact hf a w v h
theorem iQ.left {m:Sem α} {f:α->β} (hm:iQ P m):iQ P (m>>=λa=>(Pure.pure (f a):Sem β)):=λw v h=>by
 rw[jl] at h;cases hr:m.run P w with
 |halt x w2=>rw[hr] at h;cases h
 |ok a w2=>
  rw[hr] at h;simp only[Result.andThen,nu,Co] at h;rw[h.2] at hr;exact hm w a hr
theorem QF (t:TypeId):bH P (zeroValue t):=by
 unfold zeroValue;refine bH.bind (QG t) λi=> ?_;split
 ·exact bH.pure _
 ·exact(dG _).free
theorem rW (e:TypeId) (cs:Array Value):iQ P (newRow e cs):=λw v h=>by
 simp[newRow,newObj,Sem.run,Result.andThen] at h;have:=bg (λw:World=>w.heap.size) h.2;unfold World.alloc at this;simp only[Array.size_push] at this;omega
theorem LW (f:α->Sem β) (hf: ∀a,bH P (f a)): ∀l:List α,bH P (l.mapM f)
 |[]=>by rw[List.mapM_nil];exact bH.pure _
 |a::l=>by
  rw[List.mapM_cons];exact bH.bind (hf a) λ_=>bH.bind (LW f hf l) λ_=>bH.pure _
theorem aLs (f:α->Sem β) (hf: ∀a,bH P (f a)) (l:Array α):bH P (l.mapM f):=by
 rw[Array.mapM_eq_mapM_toList,<-bind_pure_comp];exact bH.bind (LW f hf _) λ_=>bH.pure _
theorem aDd (t:TypeId) (ps:Array (Nat × Value)):bH P (Instr.build t ps):=by
 unfold Instr.build;refine bH.bind (QF t) λz=> ?_;refine bH.bind (vX t) λd=> ?_;split
 ·refine bH.bind (aLs _ (λ_=>bH.bind (qC _) λ_=>bH.pure _) _) λ_=> ?_;split
  ·exact bH.pure _
  ·exact(dG _).free
 ·refine bH.bind (qC _) λ_=> ?_;split
  ·exact bH.pure _
  ·exact(dG _).free
 ·exact(dG _).free
theorem BC (t:TypeId) (n:Nat) (ps:Array (Nat × Value)):iQ P (Instr.buildSlice t n ps):=by
 unfold Instr.buildSlice;refine iQ.bind (vX t) λd=> ?_;split
 ·refine iQ.bind (qC _) λs=> ?_;dsimp only;split
  ·exact(kX.left (dG _)).noSame
  ·split
   ·refine iQ.bind (bH.pure _) λz=> ?_;split
    ·exact iQ.left (rW _ _)
    ·exact(dG _).noSame
   ·refine iQ.bind (QF _) λz=> ?_;refine iQ.bind (bH.pure _) λz=> ?_;split
    ·exact iQ.left (rW _ _)
    ·exact(dG _).noSame
 ·exact(dG _).noSame
theorem aCj (t:TypeId) (v:Value):iQ P (Instr.box t v):=iQ.left (rW _ _)
end
def aSv:Op->Bool
 | .move _=>true
 | .slice .. =>true
 | .build .. =>true
 | .buildSlice .. =>true
 | .box .. =>true
 | .extract .. =>true
 |_=>false
theorem TQ {P:Program} (v:Value) (i:Nat):bH P (Instr.extract v i):=by
 unfold Instr.extract
 repeat' first
  |exact bH.pure _
  |exact(dG _).free
  |split
theorem aZm {P:Program} {o:Oper} (h:aSv o.op=true) (ρ:Operand->Value):bFt P (execOp ρ o):=by
 unfold execOp;cases ho:o.op<;>(try (rw[ho] at h;cases h))
 all_goals first
  |exact(bH.pure _).stay
  |exact(iQ.left (aCj _ _)).stay
  |exact(bH.bind (aDd _ _) λ_=>bH.pure _).stay
  |exact(iQ.left (BC _ _ _)).stay
  |exact(bH.bind (TP _ _ _ _ _) λ_=>bH.pure _).stay
  |exact(bH.bind (TQ _ _) λ_=>bH.pure _).stay
section
variable {P:Program} {ops:Array Oper} {Q:Exit->Act->World->Prop}
def anc (ops:Array Oper):Nat->Nat->Nat->Bool
 |0,_,_=>false
 |f+1,j,k=>((ops[j]?).map (·.after.any λe=>Region.binds .any e && (Nat.beq e.on k||anc ops f e.on k))).getD false
def MX (ops:Array Oper) (ab:AI) (i:Nat):Bool:=
 (List.range ops.size).all λk=> !ab.getD k false||anc ops ops.size i k||((ops[k]?).map (aSv ·.op)).getD false
def uM (ops:Array Oper) (ab:AI):Bool:=
 (List.range ops.size).all λk=> !ab.getD k false||((ops[k]?).map (·.after.all λe=> !Region.binds .any e||ab.getD e.on false)).getD false
theorem CK {ab:AI} (h:uM ops ab=true) {k:Nat} {o:Oper} (hk:ops[k]? =some o) (hl:ab.getD k false=true): ∀e∈o.after,Region.binds .any e=true->ab.getD e.on false=true:=by
 intro e he hb;have bo:k<ops.size:=(gp.1 hk).1;have:=vw.1 h k (jm.2 bo);rw[hl,hk] at this;simp only[Ex,Io,jy,oh] at this;obtain⟨q,hq,rfl⟩:=Array.mem_iff_getElem.1 he;have h2:=Hr.1 this q hq;rw[hb] at h2;simpa using h2
theorem NA {ab:AI} (hc:uM ops ab=true): ∀(f j k:Nat) (oj:Oper),ops[j]? =some oj->(∀e∈oj.after,Region.binds .any e=true->ab.getD e.on false=true)->anc ops f j k=true->ab.getD k false=true
 |0,_,_,_,_,_,h=>by cases h
 | f+1,j,k,oj,Mp,gs,h=>by
  unfold anc at h;rw[Mp] at h;simp only[jy,oh,Array.any_eq_true] at h;obtain⟨q,hq,h⟩:=h;have he:oj.after[q]∈oj.after:=Ht hq;simp only[pz,Ar] at h;have hl:=gs _ he h.1;rcases h.2 with h2|h2
  ·rw[<-xq h2];exact hl
  ·cases ho:ops[oj.after[q].on]? with
   |none=>
    exfalso;cases f with
    |zero=>cases h2
    |succ f=>unfold anc at h2;rw[ho] at h2;simp at h2
   |some om=>exact NA hc f _ k om ho (CK hc ho hl) h2
theorem ZM {ab:AI} (hc:uM ops ab=true) {j:Nat} {oj:Oper} (Mp:ops[j]? =some oj) (gs: ∀e∈oj.after,Region.binds .any e=true->ab.getD e.on false=true):uM ops (ab.setIfInBounds j true)=true:=by
 have up: ∀k,ab.getD k false=true->(ab.setIfInBounds j true).getD k false=true:=by
  intro k hk;by_cases e:j=k
  ·subst e
   have bo:j<ab.size:=by
    rcases gu j ab.size with h|h
    ·exact h
    ·simp[Dl h] at hk
   simp[bo]
  ·simp only[za,Ap,e,xg] at hk ⊢;exact hk
 unfold uM;refine vw.2 λk hk=> ?_;by_cases Qx:k=j
 ·subst Qx;rw[Mp];simp only[jy,oh]
  have:(oj.after.all λe=> !Region.binds .any e||(ab.setIfInBounds k true).getD e.on false)=true:=by
   refine Hr.2 λq hq=> ?_;cases hb:Region.binds .any oj.after[q] with
   |false=>rfl
   |true=>simp only[Ex,Io];exact up _ (gs _ (Ht hq) hb)
  rw[this,Bool.or_true]
 ·cases hl:ab.getD k false with
  | false=>
   have:(ab.setIfInBounds j true).getD k false=false:=by
    simp only[za,Ap,Ic Qx,xg] at hl ⊢;exact hl
   rw[this];rfl
  | true=>
   cases ho:ops[k]? with
   |none=>
    have h0:=jm.1 hk;rw[Array.getElem?_eq_none_iff] at ho;omega
   | some ok=>
    have h1:=CK hc ho hl
    have:(ok.after.all λe=> !Region.binds .any e||(ab.setIfInBounds j true).getD e.on false)=true:=by
     refine Hr.2 λq hq=> ?_;cases hb:Region.binds .any ok.after[q] with
     |false=>rfl
     |true=>simp only[Ex,Io];exact up _ (h1 _ (Ht hq) hb)
    simp only[jy,oh,this,Bool.or_true]
def uW (P:Program) (ops:Array Oper) (Q:Exit->Act->World->Prop):Nat->(World->Prop)->AI->Act->World->Prop
 |0,_,ab,a,w=>Region.ready .any ops ab=[]/\Q .normal a w
 |aq+1,S,ab,a,w=>(Region.ready .any ops ab=[]->Q .normal a w)/\
  ∀i∈Region.ready .any ops ab,wpOp P ops Q i (λa' w'=> ∃S':World->Prop,S' w'/\(MX ops ab i=true\/ ∀x,S' x->S x)/\uW P ops Q aq S' (ab.setIfInBounds i true) a' w') a w
theorem yJ: ∀(aq:Nat) (S:World->Prop) (ab:AI) (a:Act) (w:World),uW P ops Q aq S ab a w->wpAny P .any ops Q aq ab a w
 |0,_,_,_,_,h=>h
 |aq+1,_,_,_,_,h=>⟨h.1,λi hi=>wpOp_mono (λa' w' ⟨S',_,_,h'⟩=>yJ aq S' _ a' w' h') (h.2 i hi)⟩
theorem YieldsIf.shrink {S S':World->Prop} {o:Oper} {v:Value} {a:Act} (h:YieldsIf P ops S o v a) (hs: ∀x,S' x->S x):YieldsIf P ops S' o v a:=
 h.imp (λ⟨hw,hv⟩=>⟨hw,λw Oi=>hv w (hs w Oi)⟩) id
theorem zJ {i:Nat} {oi:Oper} {v:Value} (hi:ops[i]? =some oi) (Ut: ∀(j:Nat) (o:Oper) cs b,ops[j]? =some o->o.op≠ .select cs b)
  (hQ: ∀c a w,Q (.panic c) (a.put oi.dst v) w->Q (.panic c) a w):
  ∀(aq:Nat) (S:World->Prop) (ab:AI) (a:Act) (w:World),
   uM ops ab=true->(∀j oj,ops[j]? =some oj->j≠i->ab.getD j true=false->(∀e∈oj.after,Region.binds .any e=true->e.on≠i)->oi.apart ops oj=true)->
   i∈Region.ready .any ops ab->YieldsIf P ops S oi v a->S w->
   uW P ops Q aq S (ab.setIfInBounds i true) (a.put oi.dst v) w->uW P ops Q (aq+1) S ab a w:=by
 intro aq
 induction aq with
 | zero=>
  intro S ab a w _ _ hr hy hS H;refine⟨λh=>(by rw[h] at hr;cases hr),λj hj=> ?_⟩;by_cases o9:j=i
  ·subst o9;exact hy.wpOp hi hS ⟨S,hS, .inr λ_ h=>h,H⟩
  ·have:=ready_mono hj o9;rw[H.1] at this;cases this
 | succ aq ih=>
  intro S ab a w ki Nt hr hy hS H;refine⟨λh=>(by rw[h] at hr;cases hr),λj hj=> ?_⟩;by_cases o9:j=i
  ·subst o9;exact hy.wpOp hi hS ⟨S,hS, .inr λ_ h=>h,H⟩
  ·have h1:=H.2 j (ready_mono hj o9);obtain⟨Tn,oj,Mp,gs⟩:=mem_ready.1 hj
   have xv:i<ab.size:=by
    have h0:=(mem_ready.1 hr).1;rcases gu i ab.size with h'|h'
    ·exact h'
    ·simp[Dl h'] at h0
   have Mo: ∀e∈oj.after,Region.binds .any e=true->e.on≠i:=λe he hb o8=>by
    have h1:=gs e he hb;have h0:=(mem_ready.1 hr).1;rw[o8] at h1;simp[xv] at h0 h1;rw[h0] at h1;cases h1
   have h2:=wpOp_putIf Mp (Nt j oj Mp o9 Tn Mo) (λcs b=>Ut i oi cs b hi) (λcs b=>Ut j oj cs b Mp) hQ hy h1
   have Pk: ∀k ok,ops[k]? =some ok->k≠i->(ab.setIfInBounds j true).getD k true=false->
     (∀e∈ok.after,Region.binds .any e=true->e.on≠i)->oi.apart ops ok=true:=λk ok hk hki Ix yd=>by
    refine Nt k ok hk hki ?_ yd;by_cases hjk:j=k
    ·subst hjk;exact Tn
    ·rw[getD_set_ne true hjk] at Ix;exact Ix
   refine wpOp_mono (λa' w' ⟨hy',S',hS',ue,hB⟩=> ?_) h2
   have Ix:ab.getD i false=false:=by
    have h0:=(mem_ready.1 hr).1;simp[xv] at h0 ⊢;exact h0
   have Np:(MX ops ab j=true\/ ∀x,S' x->S x)/\YieldsIf P ops S' oi v a':=by
    rcases ue with hb|hs
    ·have hio:i<ops.size:=(gp.1 hi).1;have un:=vw.1 hb i (jm.2 hio);have e1:(ab.setIfInBounds i true).getD i false=true:=by simp[xv]
     rw[e1,hi] at un;simp only[Ex,Io,jy,oh,Ar] at un;rcases un with ha|hm
     ·have:=NA ki _ j i oj Mp gs ha;rw[Ix] at this;cases this
     ·refine ⟨.inl ?_,?_⟩
      ·refine vw.2 λk hk=> ?_;have h3:=vw.1 hb k hk;by_cases e:i=k
       ·subst e;rw[Ix];rfl
       ·simp only[za,Ap,e,xg] at h3 ⊢;exact h3
      ·exact hy'.imp (λ⟨hw,hv⟩=>⟨hw,λQl _=>aZm hm _ _ _ (hv w hS) Ql⟩) id
    ·exact⟨.inr hs,YieldsIf.shrink hy' hs⟩
   refine⟨S',hS',Np.1,ih S' (ab.setIfInBounds j true) a' w' (ZM ki Mp gs) Pk (ready_mono hr (Ic o9)) Np.2 hS' ?_⟩;rw[Array.setIfInBounds_comm _ _ o9];exact hB
end
section
variable {P:Program} {n:Nd} {B:Nat} {w0:World} {ops:Array Oper} {K:Env->List Row->Prop} {L:Env} {R:List Row} {op:Op} {ty:TypeId} {pos:String} {nj:Array Edge}
def WD (P:Program) (n:Nd) (B:Nat) (w0:World) (ops:Array Oper) (K:Env->List Row->Prop) (aq:Nat) (ab:AI) (L:Env) (R:List Row):Prop:=
 ∀a w (Q:Exit->Act->World->Prop),Sat n L a->Hp B w0 w R->(∀c a w,¬Q (.panic c) a w)->(∀a' w' L' R',Sat n L' a'->Hp B w0 w' R'->K L' R'->Q .normal a' w')->uW P ops Q aq (λw=>Hp B w0 w R) ab a w
theorem bL {id:Nat} {l:List Oper} {Q:eZ} (hm:P.follows .mixedOrders=true) (h:WD P n B w0 l.toArray Q.nrm l.toArray.size (Array.replicate l.toArray.size false) L R) (hd:BF n.rd l=true:=by exact rfl):W P n B w0 (.region id l.toArray true) Q L R:=by
 intro a w hs hp;refine wpIn_region_any hm (aAb aEs hd _ _ _ _<|yJ _ _ _ _ _ (h a _ _ hs (hp.drawn _ (Ia _)) (λ_ _ _ h=>h) λ_ _ L' R' eh cv hk=>⟨L',R',eh,cv,hk⟩))
def chk (ops:Array Oper) (ab:AI) (i:Nat):Bool:=Region.noSelect ops && Region.free .any ops ab i && (Region.ready .any ops ab).contains i && uM ops ab
theorem GI {i:Nat} {d:Nat} {v:Value} {o:Oper} {aq:Nat} {ab:AI} (hi:ops[i]? =some o) (hd:o.dst=some d) (hc:chk ops ab i=true) (hn:Nat.blt d n=true)
  (hy: ∀a,Sat n L a->YieldsIf P ops (λw=>Hp B w0 w R) o v a) (h:WD P n B w0 ops K aq (ab.setIfInBounds i true) ((d,v)::L) R):WD P n B w0 ops K (aq+1) ab L R:=by
 intro a w Q hs hp ju hq;simp only[chk,pz] at hc;obtain⟨⟨⟨h1,h2⟩,h3⟩,h4⟩:=hc;refine zJ hi (Region.noSelect_spec h1) (λc a w hh=>(ju c _ w hh).elim) aq _ ab a w h4 (Region.free_spec hi h2) (by simpa using h3) (hy a hs) hp ?_;rw[hd];exact h _ w Q (hs.put hn v) hp ju hq
theorem bKi {d:Nat} {v:Value} {aq:Nat} {ab:AI} (i:Nat) (hi:ops[i]? =some {dst:=some d,op:=op,type:=ty,pos:=pos,after:=nj,guard:=none}) (hc:chk ops ab i=true) (hn:Nat.blt d n=true)
  (hy:Yl P n B w0 op ty L R v) (h:WD P n B w0 ops K aq (ab.setIfInBounds i true) ((d,v)::L) R):WD P n B w0 ops K (aq+1) ab L R:=
 GI hi rfl hc hn (λa hs=> .inl ⟨rfl,λw hw=>hy a w _ rfl rfl hs hw⟩) h
theorem bGj {d j e:Nat} {want:Bool} {v:Value} {aq:Nat} {ab:AI} (i:Nat) (hi:ops[i]? =some {dst:=some d,op:=op,type:=ty,pos:=pos,after:=nj,guard:=some (j,want)}) (hc:chk ops ab i=true) (hn:Nat.blt d n=true)
  (hj:(ops[j]?).bind (·.dst)=some e) (hb:lk L e=some (.bool want)) (hy:Yl P n B w0 op ty L R v) (h:WD P n B w0 ops K aq (ab.setIfInBounds i true) ((d,v)::L) R):WD P n B w0 ops K (aq+1) ab L R:=
 GI hi rfl hc hn (λa hs=> .inl ⟨by simp[Region.wanted,qE hs hj hb],λw hw=>hy a w _ rfl rfl hs hw⟩) h
theorem bGk {d j e:Nat} {want b:Bool} {aq:Nat} {ab:AI} (i:Nat) (hi:ops[i]? =some {dst:=some d,op:=op,type:=ty,pos:=pos,after:=nj,guard:=some (j,want)}) (hc:chk ops ab i=true) (hn:Nat.blt d n=true)
  (hj:(ops[j]?).bind (·.dst)=some e) (hb:lk L e=some (.bool b)) (cg:(b==want)=false) (h:WD P n B w0 ops K aq (ab.setIfInBounds i true) ((d,undef)::L) R):WD P n B w0 ops K (aq+1) ab L R:=
 GI hi rfl hc hn (λa hs=> .inr ⟨by simp only[Region.wanted,qE hs hj hb];cases b<;>cases want<;>simp_all,rfl⟩) h
theorem IM {d j e:Nat} {want:Bool} {aq:Nat} {ab:AI} (i:Nat) (hi:ops[i]? =some {dst:=some d,op:=op,type:=ty,pos:=pos,after:=nj,guard:=some (j,want)}) (hc:chk ops ab i=true) (hn:Nat.blt d n=true)
  (hj:(ops[j]?).bind (·.dst)=some e) (hb:lk L e=some undef) (h:WD P n B w0 ops K aq (ab.setIfInBounds i true) ((d,undef)::L) R):WD P n B w0 ops K (aq+1) ab L R:=
 GI hi rfl hc hn (λa hs=> .inr ⟨by simp[Region.wanted,xY hs hj hb],rfl⟩) h
theorem bDc {aq:Nat} {ab:AI} (hr:Region.ready .any ops ab=[]) (h:K L R):WD P n B w0 ops K aq ab L R:=by
 intro a w Q hs hp ju hq;cases aq with
 |zero=>exact⟨hr,hq _ _ L R hs hp h⟩
 |succ aq=>exact⟨λ_=>hq _ _ L R hs hp h,by rw[hr];simp⟩
theorem aAo {i:Nat} {o:Oper} {Post:Value->List Row->Prop} {aq:Nat} {ab:AI} (hi:ops[i]? =some o) (hr:Region.ready .any ops ab=[i]) (hg: ∀a,Sat n L a->Region.wanted o (yielded ops a.tmps)=true) (ha:Ac P n B w0 o.op o.type L R Post)
  (hn: ∀v a,Sat n L a->Sat n (match o.dst with|some d=>(d,v)::L|none=>L) (a.put o.dst v))
  (h: ∀v R',Post v R'->(MX ops ab i=true\/ ∀w,Hp B w0 w R'->Hp B w0 w R)/\WD P n B w0 ops K aq (ab.setIfInBounds i true) (match o.dst with|some d=>(d,v)::L|none=>L) R'):WD P n B w0 ops K (aq+1) ab L R:=by
 intro a w Q hs hp ju hq;refine⟨λh0=>absurd (hr▸h0) cD,λj hj=> ?_⟩;rw[hr] at hj;obtain rfl:=jb.1 hj;unfold wpOp;simp only[hi,hg a hs,Jw];refine .inl (ha a w o _ Q rfl rfl hs hp λv w' R' cv hv=> ?_);obtain⟨h1,h2⟩:=h v R' hv;exact⟨λw=>Hp B w0 w R',cv,h1,h2 _ w' Q (hn v a hs) cv ju hq⟩
theorem bKj {d:Nat} {Post:Value->List Row->Prop} {aq:Nat} {ab:AI} (i:Nat) (hi:ops[i]? =some {dst:=some d,op:=op,type:=ty,pos:=pos,after:=nj,guard:=none}) (hr:Region.ready .any ops ab=[i]) (hn:Nat.blt d n=true) (ha:Ac P n B w0 op ty L R Post)
  (h: ∀v R',Post v R'->(MX ops ab i=true\/ ∀w,Hp B w0 w R'->Hp B w0 w R)/\WD P n B w0 ops K aq (ab.setIfInBounds i true) ((d,v)::L) R'):WD P n B w0 ops K (aq+1) ab L R:=
 aAo hi hr (λ_ _=>rfl) ha (λv _ hs=>hs.put hn v) h
theorem uY {d j e:Nat} {want:Bool} {Post:Value->List Row->Prop} {aq:Nat} {ab:AI} (i:Nat) (hi:ops[i]? =some {dst:=some d,op:=op,type:=ty,pos:=pos,after:=nj,guard:=some (j,want)}) (hr:Region.ready .any ops ab=[i]) (hn:Nat.blt d n=true)
  (hj:(ops[j]?).bind (·.dst)=some e) (hb:lk L e=some (.bool want)) (ha:Ac P n B w0 op ty L R Post)
  (h: ∀v R',Post v R'->(MX ops ab i=true\/ ∀w,Hp B w0 w R'->Hp B w0 w R)/\WD P n B w0 ops K aq (ab.setIfInBounds i true) ((d,v)::L) R'):WD P n B w0 ops K (aq+1) ab L R:=
 aAo hi hr (λa hs=>by simp[Region.wanted,qE hs hj hb]) ha (λv _ hs=>hs.put hn v) h
theorem qG {Post:Value->List Row->Prop} {aq:Nat} {ab:AI} (i:Nat) (hi:ops[i]? =some {dst:=none,op:=op,type:=ty,pos:=pos,after:=nj,guard:=none}) (hr:Region.ready .any ops ab=[i]) (ha:Ac P n B w0 op ty L R Post)
  (h: ∀v R',Post v R'->(MX ops ab i=true\/ ∀w,Hp B w0 w R'->Hp B w0 w R)/\WD P n B w0 ops K aq (ab.setIfInBounds i true) L R'):WD P n B w0 ops K (aq+1) ab L R:=
 aAo hi hr (λ_ _=>rfl) ha (λ_ _ hs=>hs) h
theorem rG {aq:Nat} {ab:AI} (d:Nat) {p:Prop} [Decidable p] (hb:lk L d=some (.bool (decide p))) (ht:p->WD P n B w0 ops K aq ab ((d, .bool true)::L) R) (hf: ¬p->WD P n B w0 ops K aq ab ((d, .bool false)::L) R):WD P n B w0 ops K aq ab L R:=by
 intro a w Q hs hp hq;by_cases h:p
 ·exact ht h a w Q (hs.sub (qA (by rw[hb,ko h]))) hp hq
 ·exact hf h a w Q (hs.sub (qA (by rw[hb,ol h]))) hp hq
theorem jS {aq:Nat} {ab:AI} {d:Nat} {u v:Value} (hu:u=v) (h:WD P n B w0 ops K aq ab ((d,v)::L) R):WD P n B w0 ops K aq ab ((d,u)::L) R:=by
 subst hu;exact h
theorem mK {aq:Nat} {ab:AI} {R1:List Row} (hR:R=R1) (h:WD P n B w0 ops K aq ab L R1):WD P n B w0 ops K aq ab L R:=by
 subst hR;exact h
end
end Go.Eng
namespace Go.Eng
open Go Go.RowKit
section
variable {P:Program} {n:Nd} {B:Nat} {w0:World}
theorem lF {σ0:Type} {c:Code} {Q:eZ} {L:Env} {R:List Row} (Lx:σ0->Env) (Rx:σ0->List Row) (J:σ0->Prop) (μ:σ0->Nat)
  (h0: ∃x0,J x0/\Sub (Lx x0) L/\ ∀w,Hp B w0 w R->Hp B w0 w (Rx x0))
  (round: ∀x0,J x0->W P n B w0 c {Q with nrm:=λL' R'=> ∃y0,J y0/\μ y0<μ x0/\Sub (Lx y0) L'/\ ∀w,Hp B w0 w R'->Hp B w0 w (Rx y0)} (Lx x0) (Rx x0)):W P n B w0 (.loop c) Q L R:=by
 obtain⟨x0,h1,h2,h3⟩:=h0;refine oZ (σ:=σ0) (λp=>Lx p) (λp=>Rx p) (λp=>J p) (λp=>μ p) ⟨x0,h1,h2,h3⟩ λp hp=>iC (round p hp) ?_ (λ_ _ h=>h) (λ_ _ _ h=>h);rintro L' R' ⟨y0,g1,g2,g3,g4⟩;exact⟨y0,⟨g1,g2⟩,g3,g4⟩
theorem dS {σ0 σ1:Type} {c:Code} {Q:eZ} {L:Env} {R:List Row} (Lx:σ0->σ1->Env) (Rx:σ0->σ1->List Row) (J:σ0->σ1->Prop) (μ:σ0->σ1->Nat)
  (h0: ∃x0 x1,J x0 x1/\Sub (Lx x0 x1) L/\ ∀w,Hp B w0 w R->Hp B w0 w (Rx x0 x1))
  (round: ∀x0 x1,J x0 x1->W P n B w0 c {Q with nrm:=λL' R'=> ∃y0 y1,J y0 y1/\μ y0 y1<μ x0 x1/\Sub (Lx y0 y1) L'/\ ∀w,Hp B w0 w R'->Hp B w0 w (Rx y0 y1)} (Lx x0 x1) (Rx x0 x1)):W P n B w0 (.loop c) Q L R:=by
 obtain⟨x0,x1,h1,h2,h3⟩:=h0;refine oZ (σ:=σ0 × σ1) (λp=>Lx p.1 p.2) (λp=>Rx p.1 p.2) (λp=>J p.1 p.2) (λp=>μ p.1 p.2) ⟨(x0,x1),h1,h2,h3⟩ λp hp=>iC (round p.1 p.2 hp) ?_ (λ_ _ h=>h) (λ_ _ _ h=>h);rintro L' R' ⟨y0,y1,g1,g2,g3,g4⟩;exact⟨(y0,y1),⟨g1,g2⟩,g3,g4⟩
theorem gW {σ0 σ1 σ2:Type} {c:Code} {Q:eZ} {L:Env} {R:List Row} (Lx:σ0->σ1->σ2->Env) (Rx:σ0->σ1->σ2->List Row) (J:σ0->σ1->σ2->Prop) (μ:σ0->σ1->σ2->Nat)
  (h0: ∃x0 x1 x2,J x0 x1 x2/\Sub (Lx x0 x1 x2) L/\ ∀w,Hp B w0 w R->Hp B w0 w (Rx x0 x1 x2))
  (round: ∀x0 x1 x2,J x0 x1 x2->W P n B w0 c {Q with nrm:=λL' R'=> ∃y0 y1 y2,J y0 y1 y2/\μ y0 y1 y2<μ x0 x1 x2/\Sub (Lx y0 y1 y2) L'/\ ∀w,Hp B w0 w R'->Hp B w0 w (Rx y0 y1 y2)} (Lx x0 x1 x2) (Rx x0 x1 x2)):W P n B w0 (.loop c) Q L R:=by
 obtain⟨x0,x1,x2,h1,h2,h3⟩:=h0;refine oZ (σ:=σ0 × σ1 × σ2) (λp=>Lx p.1 p.2.1 p.2.2) (λp=>Rx p.1 p.2.1 p.2.2) (λp=>J p.1 p.2.1 p.2.2) (λp=>μ p.1 p.2.1 p.2.2) ⟨(x0,x1,x2),h1,h2,h3⟩ λp hp=>iC (round p.1 p.2.1 p.2.2 hp) ?_ (λ_ _ h=>h) (λ_ _ _ h=>h);rintro L' R' ⟨y0,y1,y2,g1,g2,g3,g4⟩;exact⟨(y0,y1,y2),⟨g1,g2⟩,g3,g4⟩
theorem GM {σ0 σ1 σ2 σ3:Type} {c:Code} {Q:eZ} {L:Env} {R:List Row} (Lx:σ0->σ1->σ2->σ3->Env) (Rx:σ0->σ1->σ2->σ3->List Row) (J:σ0->σ1->σ2->σ3->Prop) (μ:σ0->σ1->σ2->σ3->Nat)
  (h0: ∃x0 x1 x2 x3,J x0 x1 x2 x3/\Sub (Lx x0 x1 x2 x3) L/\ ∀w,Hp B w0 w R->Hp B w0 w (Rx x0 x1 x2 x3))
  (round: ∀x0 x1 x2 x3,J x0 x1 x2 x3->W P n B w0 c {Q with nrm:=λL' R'=> ∃y0 y1 y2 y3,J y0 y1 y2 y3/\μ y0 y1 y2 y3<μ x0 x1 x2 x3/\Sub (Lx y0 y1 y2 y3) L'/\ ∀w,Hp B w0 w R'->Hp B w0 w (Rx y0 y1 y2 y3)} (Lx x0 x1 x2 x3) (Rx x0 x1 x2 x3)):W P n B w0 (.loop c) Q L R:=by
 obtain⟨x0,x1,x2,x3,h1,h2,h3⟩:=h0;refine oZ (σ:=σ0 × σ1 × σ2 × σ3) (λp=>Lx p.1 p.2.1 p.2.2.1 p.2.2.2) (λp=>Rx p.1 p.2.1 p.2.2.1 p.2.2.2) (λp=>J p.1 p.2.1 p.2.2.1 p.2.2.2) (λp=>μ p.1 p.2.1 p.2.2.1 p.2.2.2) ⟨(x0,x1,x2,x3),h1,h2,h3⟩ λp hp=>iC (round p.1 p.2.1 p.2.2.1 p.2.2.2 hp) ?_ (λ_ _ h=>h) (λ_ _ _ h=>h);rintro L' R' ⟨y0,y1,y2,y3,g1,g2,g3,g4⟩;exact⟨(y0,y1,y2,y3),⟨g1,g2⟩,g3,g4⟩
theorem jK {σ0 σ1 σ2 σ3 σ4:Type} {c:Code} {Q:eZ} {L:Env} {R:List Row} (Lx:σ0->σ1->σ2->σ3->σ4->Env) (Rx:σ0->σ1->σ2->σ3->σ4->List Row) (J:σ0->σ1->σ2->σ3->σ4->Prop) (μ:σ0->σ1->σ2->σ3->σ4->Nat)
  (h0: ∃x0 x1 x2 x3 x4,J x0 x1 x2 x3 x4/\Sub (Lx x0 x1 x2 x3 x4) L/\ ∀w,Hp B w0 w R->Hp B w0 w (Rx x0 x1 x2 x3 x4))
  (round: ∀x0 x1 x2 x3 x4,J x0 x1 x2 x3 x4->W P n B w0 c {Q with nrm:=λL' R'=> ∃y0 y1 y2 y3 y4,J y0 y1 y2 y3 y4/\μ y0 y1 y2 y3 y4<μ x0 x1 x2 x3 x4/\Sub (Lx y0 y1 y2 y3 y4) L'/\ ∀w,Hp B w0 w R'->Hp B w0 w (Rx y0 y1 y2 y3 y4)} (Lx x0 x1 x2 x3 x4) (Rx x0 x1 x2 x3 x4)):W P n B w0 (.loop c) Q L R:=by
 obtain⟨x0,x1,x2,x3,x4,h1,h2,h3⟩:=h0;refine oZ (σ:=σ0 × σ1 × σ2 × σ3 × σ4) (λp=>Lx p.1 p.2.1 p.2.2.1 p.2.2.2.1 p.2.2.2.2) (λp=>Rx p.1 p.2.1 p.2.2.1 p.2.2.2.1 p.2.2.2.2) (λp=>J p.1 p.2.1 p.2.2.1 p.2.2.2.1 p.2.2.2.2) (λp=>μ p.1 p.2.1 p.2.2.1 p.2.2.2.1 p.2.2.2.2) ⟨(x0,x1,x2,x3,x4),h1,h2,h3⟩ λp hp=>iC (round p.1 p.2.1 p.2.2.1 p.2.2.2.1 p.2.2.2.2 hp) ?_ (λ_ _ h=>h) (λ_ _ _ h=>h);rintro L' R' ⟨y0,y1,y2,y3,y4,g1,g2,g3,g4⟩;exact⟨(y0,y1,y2,y3,y4),⟨g1,g2⟩,g3,g4⟩
theorem pJ {σ0 σ1 σ2 σ3 σ4 σ5:Type} {c:Code} {Q:eZ} {L:Env} {R:List Row} (Lx:σ0->σ1->σ2->σ3->σ4->σ5->Env) (Rx:σ0->σ1->σ2->σ3->σ4->σ5->List Row) (J:σ0->σ1->σ2->σ3->σ4->σ5->Prop) (μ:σ0->σ1->σ2->σ3->σ4->σ5->Nat)
  (h0: ∃x0 x1 x2 x3 x4 x5,J x0 x1 x2 x3 x4 x5/\Sub (Lx x0 x1 x2 x3 x4 x5) L/\ ∀w,Hp B w0 w R->Hp B w0 w (Rx x0 x1 x2 x3 x4 x5))
  (round: ∀x0 x1 x2 x3 x4 x5,J x0 x1 x2 x3 x4 x5->W P n B w0 c {Q with nrm:=λL' R'=> ∃y0 y1 y2 y3 y4 y5,J y0 y1 y2 y3 y4 y5/\μ y0 y1 y2 y3 y4 y5<μ x0 x1 x2 x3 x4 x5/\Sub (Lx y0 y1 y2 y3 y4 y5) L'/\ ∀w,Hp B w0 w R'->Hp B w0 w (Rx y0 y1 y2 y3 y4 y5)} (Lx x0 x1 x2 x3 x4 x5) (Rx x0 x1 x2 x3 x4 x5)):W P n B w0 (.loop c) Q L R:=by
 obtain⟨x0,x1,x2,x3,x4,x5,h1,h2,h3⟩:=h0;refine oZ (σ:=σ0 × σ1 × σ2 × σ3 × σ4 × σ5) (λp=>Lx p.1 p.2.1 p.2.2.1 p.2.2.2.1 p.2.2.2.2.1 p.2.2.2.2.2) (λp=>Rx p.1 p.2.1 p.2.2.1 p.2.2.2.1 p.2.2.2.2.1 p.2.2.2.2.2) (λp=>J p.1 p.2.1 p.2.2.1 p.2.2.2.1 p.2.2.2.2.1 p.2.2.2.2.2) (λp=>μ p.1 p.2.1 p.2.2.1 p.2.2.2.1 p.2.2.2.2.1 p.2.2.2.2.2) ⟨(x0,x1,x2,x3,x4,x5),h1,h2,h3⟩ λp hp=>iC (round p.1 p.2.1 p.2.2.1 p.2.2.2.1 p.2.2.2.2.1 p.2.2.2.2.2 hp) ?_ (λ_ _ h=>h) (λ_ _ _ h=>h);rintro L' R' ⟨y0,y1,y2,y3,y4,y5,g1,g2,g3,g4⟩;exact⟨(y0,y1,y2,y3,y4,y5),⟨g1,g2⟩,g3,g4⟩
theorem GL {σ0 σ1 σ2 σ3 σ4 σ5 σ6:Type} {c:Code} {Q:eZ} {L:Env} {R:List Row} (Lx:σ0->σ1->σ2->σ3->σ4->σ5->σ6->Env) (Rx:σ0->σ1->σ2->σ3->σ4->σ5->σ6->List Row) (J:σ0->σ1->σ2->σ3->σ4->σ5->σ6->Prop) (μ:σ0->σ1->σ2->σ3->σ4->σ5->σ6->Nat)
  (h0: ∃x0 x1 x2 x3 x4 x5 x6,J x0 x1 x2 x3 x4 x5 x6/\Sub (Lx x0 x1 x2 x3 x4 x5 x6) L/\ ∀w,Hp B w0 w R->Hp B w0 w (Rx x0 x1 x2 x3 x4 x5 x6))
  (round: ∀x0 x1 x2 x3 x4 x5 x6,J x0 x1 x2 x3 x4 x5 x6->W P n B w0 c {Q with nrm:=λL' R'=> ∃y0 y1 y2 y3 y4 y5 y6,J y0 y1 y2 y3 y4 y5 y6/\μ y0 y1 y2 y3 y4 y5 y6<μ x0 x1 x2 x3 x4 x5 x6/\Sub (Lx y0 y1 y2 y3 y4 y5 y6) L'/\ ∀w,Hp B w0 w R'->Hp B w0 w (Rx y0 y1 y2 y3 y4 y5 y6)} (Lx x0 x1 x2 x3 x4 x5 x6) (Rx x0 x1 x2 x3 x4 x5 x6)):W P n B w0 (.loop c) Q L R:=by
 obtain⟨x0,x1,x2,x3,x4,x5,x6,h1,h2,h3⟩:=h0;refine oZ (σ:=σ0 × σ1 × σ2 × σ3 × σ4 × σ5 × σ6) (λp=>Lx p.1 p.2.1 p.2.2.1 p.2.2.2.1 p.2.2.2.2.1 p.2.2.2.2.2.1 p.2.2.2.2.2.2) (λp=>Rx p.1 p.2.1 p.2.2.1 p.2.2.2.1 p.2.2.2.2.1 p.2.2.2.2.2.1 p.2.2.2.2.2.2) (λp=>J p.1 p.2.1 p.2.2.1 p.2.2.2.1 p.2.2.2.2.1 p.2.2.2.2.2.1 p.2.2.2.2.2.2) (λp=>μ p.1 p.2.1 p.2.2.1 p.2.2.2.1 p.2.2.2.2.1 p.2.2.2.2.2.1 p.2.2.2.2.2.2) ⟨(x0,x1,x2,x3,x4,x5,x6),h1,h2,h3⟩ λp hp=>iC (round p.1 p.2.1 p.2.2.1 p.2.2.2.1 p.2.2.2.2.1 p.2.2.2.2.2.1 p.2.2.2.2.2.2 hp) ?_ (λ_ _ h=>h) (λ_ _ _ h=>h);rintro L' R' ⟨y0,y1,y2,y3,y4,y5,y6,g1,g2,g3,g4⟩;exact⟨(y0,y1,y2,y3,y4,y5,y6),⟨g1,g2⟩,g3,g4⟩
theorem zK {x y:Code} {Q:eZ} {L:Env} {R:List Row} (L1:Env) (R1:List Row)
  (hx:W P n B w0 x {Q with nrm:=λL' R'=>Sub L1 L'/\ ∀w,Hp B w0 w R'->Hp B w0 w R1} L R) (hy:W P n B w0 y Q L1 R1):W P n B w0 (.seq x y) Q L R:=
 aD (iC hx (λ_ _ ⟨hL,hR⟩=>aFc hL hR hy) (λ_ _ h=>h) (λ_ _ _ h=>h))
theorem bN {Q:eZ} {L:Env} {R R1:List Row} (hR: ∀w,Hp B w0 w R->Hp B w0 w R1) (h:Q.ret L R1):W P n B w0 .ret Q L R:=aFc (Sub.refl L) hR (bT h)
def pickT (is:List Nat) (m:Nat) (R:List Row):List Row:=is.filterMap (λi=>R[i]?)++R.drop m
theorem Hp.pickT {B:Nat} {w0 w:World} {R:List Row} (h:Hp B w0 w R) (is:List Nat) (m:Nat) (hn:is.Nodup) (hR:is.map (λi=>(R.take m)[i]?)=(is.filterMap (λi=>R[i]?)).map some):Hp B w0 w (pickT is m R):=by
 rw[<-ik m R] at h;have hp:=ow.1 h.apart;have hF:Hp B w0 w (R.take m):=⟨h.below,h.base,λr hr=>h.own r (fo.2 (.inl hr)),hp.1,h.late⟩;have Vw:=hF.sel is hn hR
 have mem: ∀q∈is.filterMap (λi=>R[i]?),q∈R.take m:=by
  intro q hq;have h1:some q∈(is.filterMap (λi=>R[i]?)).map some:=gz.2 ⟨q,hq,rfl⟩;rw[<-hR] at h1;obtain⟨i,_,hi⟩:=gz.1 h1;exact gq hi
 refine⟨h.below,h.base,λr hr=> ?_,ow.2 ⟨Vw.apart,hp.2.1,λa ha b hb=>hp.2.2 a (mem a ha) b hb⟩,h.late⟩;rcases fo.1 hr with hr|hr
 ·exact Vw.own r hr
 ·exact h.own r (fo.2 (.inr hr))
theorem Ct.pick {P:Program} {B:Nat} {w0:World} {f:FuncId} {args:Array Value} {R:List Row} {Post:Value->List Row->Prop} (is:List Nat) (m:Nat) (hn:is.Nodup) (hR:is.map (λi=>(R.take m)[i]?)=(is.filterMap (λi=>R[i]?)).map some) (h:Ct P f args B w0 (pickT is m R) Post):Ct P f args B w0 R Post:=
 Ct.sub (λ_ hw=>hw.pickT is m hn hR) h
theorem aX {P:Program} {n:Nd} {B:Nat} {w0:World} {Q:eZ} {L:Env} {R:List Row} (is:List Nat) (m:Nat) (hn:is.Nodup) (hR:is.map (λi=>(R.take m)[i]?)=(is.filterMap (λi=>R[i]?)).map some) (h:Q.ret L (pickT is m R)):W P n B w0 .ret Q L R:=
 bN (λ_ hw=>hw.pickT is m hn hR) h
theorem Ct.quiet {f:FuncId} {args:Array Value} {R:List Row} {Q:Value->Prop} (h: ∀w,Hp B w0 w R->Ct P f args w.heap.size w [] (λv _=>Q v)):Ct P f args B w0 R (λv R'=>R'=R/\Q v):=
 λw hw=>(h w hw w (Hp.refl w)).mono λ_ _ ⟨v,_,he,hh,hv⟩=>⟨v,R,he,(hw.join hh).right,rfl,hv⟩
theorem Sub.to {L1 L:Env} {t:Nat} {v u:Value} (h:lk L t=some v) (e:v=u) (hs:Sub L1 L):Sub ((t,u)::L1) L:=e▸Sub.cons h hs
variable {L:Env} {R:List Row} {ty:TypeId}
def aL (l:AH):Prop:= ∀x∈l,0<=x/\x<256
theorem aL.rd {l:AH} (h:aL l) (i:Int):0<=rd l i/\rd l i<256:=by
 unfold Eng.rd;rcases gu i.toNat l.length with h1|h1
 ·rw [af,av h1];exact h _ (ky h1)
 ·rw [af,lm h1];simp
theorem aL.take {l:AH} (h:aL l) (k:Nat):aL (l.take k):=λx hx=>h x (ll hx)
theorem aL.drop {l:AH} (h:aL l) (k:Nat):aL (l.drop k):=λx hx=>h x (ng hx)
theorem aL.append {l m:AH} (h:aL l) (h':aL m):aL (l++m):=λx hx=>(fo.1 hx).elim (h x) (h' x)
theorem aL.nil:aL []:=λ_ h=>by cases h
theorem zS {l m:AH} (hl:aL l) (hm:aL m):((strOfNums l).toList==(strOfNums m).toList)=decide (l=m):=by
 have key: ∀l:AH,aL l->((strOfNums l).toList.map λb=>(b.toNat:Int))=l:=by
  intro l hl
  have e:(strOfNums l).toList=l.map λx=>UInt8.ofNat x.toNat:=by
   rw[ByteArray.toList_eq];rfl
  rw[e,rq]
  conv=>rhs;rw[<-List.map_id l]
  refine xh λx hx=> ?_;obtain⟨h0,h1⟩:=hl x hx;simp only[Function.comp,id];rw[Ci (by simp[UInt8.size];omega)];omega
 by_cases h:l=m
 ·subst h;simp
 ·have:(strOfNums l).toList≠(strOfNums m).toList:=λe=>h (by rw[<-key l hl,<-key m hm,e]);simp[h,this]
theorem jR {x:Operand} {s e d:TypeId} {A:AF} {m c:Nat} {l:AH} (eh:P.underlying s=some (.slice e)) (he:P.underlying e=some (.int .u8)) (hd:P.underlying d=some .string) (hx:ev L x=some (.slice A m c)) (hr:RdC B w0 R A m c 1 (ints .u8 l)):
  Yl P n B w0 (.convert s d x) ty L R (.string (strOfNums l)):=by
 intro a w o ho _ hs hp;have jp:=hr w hp;have hl:=jp.len;rw[bO,qg] at hl
 have hc:(convert s d (.slice A m c)).run P w= .ok (.string (strOfNums l)) w:=by
  rcases A with _|ad
  ·have h0:l=[]:=by
    cases l with
    |nil=>rfl
    |cons y l'=>obtain⟨_,h,_⟩:=jp.at_ 0 (.int .u8 y) (by simp[ints]);cases h
   subst h0;exact run_convert_bytes_nil w s e eh he m c d hd
  ·have hlc:(loadCells ad m).run P w= .ok (l.map (Value.int .u8)).toArray w:=by
    have:=run_loadCells_list (P:=P) w ad (l.map (Value.int .u8)) (λj v hj=>by
     obtain⟨a',nb,tz⟩:=jp.at_ j v hj;obtain rfl:=jd nb
     exact tz)
    simpa [hl] using this
   rw[run_convert_bytes_string w s d e _ m c eh he hd,run_bytesToString w _ m c l hlc,foldl_push_bytes];simp[strOfNums,ByteArray.empty,ByteArray.emptyWithCapacity];rfl
 simp[execOp,ho,hs.ev hx,hc]
theorem bGi {x y:Operand} {t u:TypeId} {p q:ByteArray} (hx:ev L x=some (.string p)) (hy:ev L y=some (.string q)):Yl P n B w0 (.binOp .eql t x y u) ty L R (.bool (p.toList==q.toList)):=by
 intro a w o ho _ hs _;simp[execOp,ho,binOp,eqGuard,hs.ev hx,hs.ev hy,Op.stringOp]
theorem OB {x y:Operand} {t u:TypeId} {p q:AH} (hx:ev L x=some (.string (strOfNums p))) (hy:ev L y=some (.string (strOfNums q))) (hp:aL p) (hq:aL q):Yl P n B w0 (.binOp .eql t x y u) ty L R (.bool (decide (p=q))):=by
 have:=bGi (P:=P) (n:=n) (B:=B) (w0:=w0) (R:=R) (ty:=ty) (t:=t) (u:=u) hx hy;rwa[zS hp hq] at this
theorem bBi {x y:Operand} {t u:TypeId} {p q:AH} (hx:ev L x=some (.string (strOfNums p))) (hy:ev L y=some (.string (strOfNums q))) (hp:aL p) (hq:aL q):Yl P n B w0 (.binOp .neq t x y u) ty L R (.bool (decide (p≠q))):=by
 intro a w o ho _ hs _;have h:=zS hp hq;have h2:(!decide (p=q))=decide (p≠q):=cD
 simp only[execOp,ho,binOp,eqGuard,hs.ev hx,hs.ev hy,Op.stringOp,h,h2];simp
theorem aWb {x:Operand} {t e:TypeId} {r:Row} {g:Nat} (i:Nat) (hi:R[i]? =some r) (mt:r.ro=false) (ht:P.underlying t=some (.slice e)) (he:P.underlying e=some (.int .u8)) (hA:r.A=some ⟨g,0,none⟩) (hx:ev L x=some (.slice r.A r.n r.c)):
  Ac P n B w0 (.convert t t x) ty L R (λv R'=>v= .slice r.A r.n r.c/\R'=R.set i {r with ro:=true}):=by
 intro a w o K Q ho _ hs hp hk;have hw:=Row.lies_w (hp.own r (gq hi)) mt;rcases hw.2 with⟨hn,_⟩|⟨g',cap,cur,eh,hb,hg,hnc,pt,ie,w6⟩
 ·rw[hA] at hn;cases hn
 ·rw [hA] at eh;simp only[jv,lv,Bb,Ag,zy] at eh;obtain⟨rfl,rfl⟩:=eh
  have Zc:(w.freeze ⟨g,cur.size,none⟩ 1).heap[g]? =some (.cells cur r.e (cur.size,cur.size+1)):=by
   have bo:g<w.heap.size:=(gp.1 hg).1;have hv:w.heap[g]= .cells cur r.e (0,0):=(gp.1 hg).2;simp[World.freeze,bo,Array.getElem_modify,hv]
  have hoth: ∀k,k≠g->(w.freeze ⟨g,cur.size,none⟩ 1).heap[k]? =w.heap[k]? :=by
   intro k hk;simp[World.freeze,uy,Ic hk]
  have hr:(convert t t (.slice r.A r.n r.c)).run P w= .ok (.slice r.A r.n r.c) (w.freeze ⟨g,cur.size,none⟩ 1):=by
   rw[hA];simp only[convert,jl,mo ht,jo,mo he,beq_self_eq_true];simp[markStringish,shape,Sem.run,World.shape?,hg,freeze]
  unfold Oper.wp;simp only[execOp,ho,hs.ev hx,jl,hr,jo,nu,Oper.upon];refine hk _ _ _ ?_ ⟨rfl,rfl⟩;refine hp.upd hi (row:=some g) ⟨by simp[World.freeze],by simp[World.freeze],by simp[World.freeze],by simp[World.freeze],λk _ cg=>hoth k (λe=>cg (by rw[e]))⟩ (by simp[World.freeze]) (λk hk=>⟨_,hA,by simpa using hk⟩) ?_ (λa' nb=> .inl ⟨a',nb,rfl⟩);unfold Row.lies;exact⟨g,cur,_,hA,hb,Zc,ry hnc pt,hnc,hw.1,w6⟩
end
end Go.Eng
namespace Go.Eng
open Go Go.RowKit
def upd (l:AH) (i v:Int):AH:=l.set i.toNat v
theorem rP (k:IntKind) (l m:AH):ints k (l++m)=ints k l++ints k m:=by simp[ints]
theorem aSx (k:IntKind) (l:AH) (i v:Int):(ints k l).set i.toNat (.int k v)=ints k (upd l i v):=by simp[ints,upd,List.map_set]
theorem aT (l:AH) (i v:Int):(upd l i v).length=l.length:=by simp[upd]
theorem gG {l:AH} {i j v:Int} (hi:0<=i) (hj:0<=j) (h:i<l.length):rd (upd l i v) j=if j=i then v else rd l j:=by
 unfold rd upd;rw[af,af,wz];by_cases e:j=i
 ·subst e;have:j.toNat<l.length:=G
  simp[this]
 ·have: ¬i.toNat=j.toNat:=G
  simp[e,this]
theorem JY {l m:AH} {i:Int} (h0:0<=i) (h:i<l.length):rd (l++m) i=rd l i:=by
 unfold rd;rw[af,af,jf G]
theorem NQ {l:AH} {x i:Int} (h:i=l.length):rd (l++[x]) i=x:=by
 subst h;simp[rd]
theorem BK (k:IntKind) (l:AH): ∀u∈ints k l,u.oneCell'=true:=by
 intro u hu;obtain⟨x,_,rfl⟩:=gz.1 hu;rfl
section
variable {P:Program} {n:Nd} {B:Nat} {w0:World} {L:Env} {R:List Row} {ty:TypeId}
theorem JW (k:IntKind):RdC B w0 R none 0 0 1 (ints k []):=λ_ _=>⟨rfl,G,G,λj v hv=>by simp[ints] at hv⟩
theorem aFw (sz:Nat):RdC B w0 R none 0 0 sz []:=λ_ _=>⟨cD,G,G,λj v hv=>by simp at hv⟩
theorem bG {x y:Operand} {t e:TypeId} {j v:Int} {A:AF} {m c:Nat} {k:IntKind} {l:AH} (i:Nat) (hi:R[i]? =some ⟨e,1,A,m,c,ints k l,false⟩) (ff:(P.info? t).map (·.size)=some 1) (hx:ev L x=some (.pointer (pat A j.toNat))) (hy:ev L y=some (.int k v)) (h0:0<=j:=by omega) (h1:j<m:=by omega):
  Ac P n B w0 (.store t x y) ty L R (λ_ R'=>R'=R.set i ⟨e,1,A,m,c,ints k (upd l j v),false⟩):=by
 intro a w o K Q ho Iv hs hp hk;have fc:=Row.lies_w (hp.own _ (gq hi)) rfl;have jp:=Row.rd (hp.own _ (gq hi));have hl:=jp.len
 obtain⟨g,hA⟩: ∃g,A=some ⟨g,0,none⟩:=by
  rcases fc.2 with⟨_,hn⟩|⟨g,cap,cur,hv,_⟩
  ·simp only at hn;omega
  ·simp only[jv] at hv;exact⟨g,hv.1⟩
 have:=UJ (P:=P) (n:=n) (B:=B) (w0:=w0) (ty:=ty) i hi rfl hA ff hx rfl hy rfl rfl (by rw[hl];simp only;omega);simp only[aSx] at this;exact this a w o K Q ho Iv hs hp hk
theorem aY {s x:Operand} {t e:TypeId} {bytes m p c c2:Nat} {A A2:AF} {k:IntKind} {l news:AH} (i:Nat) (hi:R[i]? =some ⟨e,1,A,p,c,ints k l,false⟩) (ht:P.underlying t=some (.slice e)) (dq:(P.info? e).map (λi=>(i.zero,i.size,i.bytes))=some (some (.int k 0),1,bytes)) (vu:Nat.blt 0 bytes=true)
  (hs:ev L s=some (.slice A p c)) (hx:ev L x=some (.slice A2 m c2)) (jp:RdC B w0 R A2 m c2 1 (ints k news)) (iz:(p+m)*bytes<=140737488355328:=by omega):
  Ac P n B w0 (.call {callee:= .builtin .append,args:= #[s,x],argTypes:= #[t,t]}) ty L R (λv R'=> ∃A' c',v= .slice A' (p+m) c'/\R'=R.set i ⟨e,1,A',p+m,c',ints k (l++news),false⟩):=by
 have:=eY (P:=P) (n:=n) (B:=B) (w0:=w0) (ty:=ty) i hi rfl ht dq rfl rfl vu hs hx jp (BK k news) iz;simp only[<-rP] at this;exact this
theorem aQf (k:IntKind) (m:Nat) (x:Int):List.replicate m (Value.int k x)=ints k (List.replicate m x):=by simp[ints]
theorem dM {x y:Operand} {t e:TypeId} {k:IntKind} {bytes:Nat} {m:Int} (ht:P.underlying t=some (.slice e)) (dq:(P.info? e).map (λi=>(i.zero,i.size,i.bytes))=some (some (.int k 0),1,bytes))
  (hx:ev L x=some (.int .i64 m)) (hy:ev L y=some (.int .i64 m)) (h0:0<=m:=by omega) (hm:m*bytes<=281474976710656:=by omega) (Kx:m<=9223372036854775807:=by omega):
  Ac P n B w0 (.makeSlice t x y) ty L R (λv R'=> ∃g,v= .slice (some ⟨g,0,none⟩) m.toNat m.toNat/\R'=⟨e,1,some ⟨g,0,none⟩,m.toNat,m.toNat,ints k (List.replicate m.toNat 0),false⟩::R):=by
 have:=aIi (P:=P) (n:=n) (B:=B) (w0:=w0) (L:=L) (R:=R) (ty:=ty) ht dq rfl hx hy h0 hm Kx;simpa only[aQf] using this
theorem Yl.t {op:Op} {p:Prop} [Decidable p] (hy:Yl P n B w0 op ty L R (.bool (decide p))) (h:p):Yl P n B w0 op ty L R (.bool true):=by rwa[ko h] at hy
theorem Yl.f {op:Op} {p:Prop} [Decidable p] (hy:Yl P n B w0 op ty L R (.bool (decide p))) (h: ¬p:=by omega):Yl P n B w0 op ty L R (.bool false):=by rwa[ol h] at hy
theorem Yl.is {op:Op} {v u:Value} (hy:Yl P n B w0 op ty L R v) (h:v=u):Yl P n B w0 op ty L R u:=h▸hy
theorem oG {ops:Array Oper} {l:List Oper} {K:Env->List Row->Prop} (d:Nat) {p:Prop} [Decidable p] (h:lk L d=some (.bool (decide p))) (hp:p) (hn:WR P n B w0 ops l K ((d, .bool true)::L) R):WR P n B w0 ops l K L R:=
 bR (qA (by rw[h,ko hp])) (λ_ h=>h) hn
theorem wZ {ops:Array Oper} {l:List Oper} {K:Env->List Row->Prop} (d:Nat) {p:Prop} [Decidable p] (h:lk L d=some (.bool (decide p))) (hp: ¬p) (hn:WR P n B w0 ops l K ((d, .bool false)::L) R):WR P n B w0 ops l K L R:=
 bR (qA (by rw[h,ol hp])) (λ_ h=>h) hn
theorem kY {ops:Array Oper} {l2:List Oper} {Q:Exit->Act->World->Prop}: ∀(l1:List Oper) (a:Act) (w:World),wpList P ops (λe a w=>match e with| .normal=>wpList P ops Q l2 a w|e=>Q e a w) l1 a w->wpList P ops Q (l1++l2) a w
 |[],a,w,h=>h
 | o ::l1,a,w,h=>by
  simp only[ja];unfold wpList at h ⊢;split
  ·rename_i hw;rw[di hw] at h;rcases h with h|⟨h1,h2⟩
   ·left;unfold Oper.wp at h ⊢;generalize (execOp a.eval o).run P w=r at*;cases r with
    | ok n w'=>
     cases n<;>simp only[Oper.upon] at h ⊢ <;>first
      |exact kY l1 _ _ h
      |exact Calls.mono h (λe Ql he=>by cases e<;>first|exact kY l1 _ _ he|exact he)
      |exact Rows.mono h (λ_ _ he=>kY l1 _ _ he)
    |halt x w'=>cases x<;>simp only[Oper.upon] at h ⊢ <;>exact h
   ·exact .inr ⟨h1,h2⟩
  ·rename_i hw;rw[df hw] at h;exact kY l1 _ _ h
theorem dD {ops:Array Oper} {l:List Oper} {K:Env->List Row->Prop} (k:Nat) (L1:Env) (R1:List Row) (h1:WR P n B w0 ops (l.take k) (λL' R'=>Sub L1 L'/\ ∀w,Hp B w0 w R'->Hp B w0 w R1) L R) (h2:WR P n B w0 ops (l.drop k) K L1 R1):WR P n B w0 ops l K L R:=by
 intro a w Q hs hp hq;rw[<-ik k l];refine kY _ a w (h1 a w _ hs hp λa' w' L' R' eh cv ⟨hL,hR⟩=> ?_);exact h2 a' w' Q (eh.sub hL) (hR w' cv) hq
theorem bKm {p:Prop} [Decidable p] (h:p):Value.bool true=Value.bool (decide p):=by rw[ko h]
theorem bKn {p:Prop} [Decidable p] (h: ¬p):Value.bool false=Value.bool (decide p):=by rw[ol h]
theorem mb {p q:Prop} [Decidable p] [Decidable q] (h:p↔q):Value.bool (decide p)=Value.bool (decide q):=by rw[wh.2 h]
def enu:Nat->AG->List (Nat × Value)
 |_,[]=>[]
 |k,v::vs=>(k,v)::enu (k+1) vs
theorem cells_one {v:Value} (h:v.oneCell'=true):v.cells= #[v]:=by cases v<;>first|rfl|(simp[Value.oneCell'] at h)
theorem XZ: ∀(vs pre post:AG),vs.all (·.oneCell')=true->vs.length=post.length->Instr.fill (λi=>some (i*1,1)) (pre++post).toArray (enu pre.length vs)=some (pre++vs).toArray
 |[],pre,post,_,hl=>by
  have:post=[]:=dx (by simpa using hl.symm);subst this;simp[enu,Instr.fill]
 | v::vs,pre,post,h1,hl=>by
  cases post with
  |nil=>simp at hl
  | cons q post=>
   simp only[Ey,pz] at h1;have hc:=cells_one h1.1;have ih:=XZ vs (pre++[v]) post h1.2 (by simpa using hl);simp only[ai,ii] at ih;simp only[enu,Instr.fill,qg];rw[hc];have hn: ¬((#[v]:Array Value).size≠1\/pre.length+(#[v]:Array Value).size>(pre++q::post).toArray.size):=cD
   simp only[hn,Ar,zw,xg]
   have e:((#[v]:Array Value).zipIdx.foldl (λcs x=>cs.setIfInBounds (pre.length+x.2) x.1) (pre++q::post).toArray)=(pre++[v]++post).toArray:=by
    simp
   simp only[qg,ek,ja,ig] at ih;simp only[e,ek,ja,ig];exact ih
theorem iA {t e:TypeId} {z:Value} {len:Nat} {ps:List (Nat × Operand)} (vals:AG) (ht:P.underlying t=some (.slice e)) (dq:(P.info? e).map (λi=>(i.zero,i.size))=some (some z,1)) (hv:evp L ps=some (enu 0 vals))
  (h1:vals.all (·.oneCell')=true) (hl:vals.length=len) (pv:Nat.ble len 16777216=true):
  Ac P n B w0 (.buildSlice t len ps.toArray) ty L R (λv R'=> ∃g,v= .slice (some ⟨g,0,none⟩) len len/\R'=⟨e,1,some ⟨g,0,none⟩,len,len,vals,false⟩::R):=by
 have hf:=XZ vals [] (((Array.range (len*1)).map ((bif Nat.beq (len*1) 0 then #[] else z.cells)[· %(bif Nat.beq (len*1) 0 then #[] else z.cells).size]!)).toList) h1 (by simp[hl]);simp only[jg,ig,Array.toArray_toList] at hf;have:=pU (P:=P) (n:=n) (B:=B) (w0:=w0) (L:=L) (R:=R) (ty:=ty) (len:=len) ht dq hv (by rw[qg];exact pv) pv hf (by simp[hl]);simpa using this
theorem bQ {t e:TypeId} {z:Value} {len:Nat} {ps:List (Nat × Operand)} (k:IntKind) (l:AH) (ht:P.underlying t=some (.slice e)) (dq:(P.info? e).map (λi=>(i.zero,i.size))=some (some z,1)) (hv:evp L ps=some (enu 0 (ints k l)))
  (hl:l.length=len) (pv:Nat.ble len 16777216=true):
  Ac P n B w0 (.buildSlice t len ps.toArray) ty L R (λv R'=> ∃g,v= .slice (some ⟨g,0,none⟩) len len/\R'=⟨e,1,some ⟨g,0,none⟩,len,len,ints k l,false⟩::R):=
 iA (ints k l) ht dq hv (by rw[vw];exact BK k l) (by rw[bO,hl]) pv
theorem Rd.lenI {w:World} {A:AF} {m c:Nat} {k:IntKind} {l:AH} (h:Rd w A m c 1 (ints k l)):m=l.length:=by
 have:=h.len;rw[bO] at this;omega
end
end Go.Eng
namespace Go.Eng
open Go Go.RowKit
section
variable {P:Program} {n:Nd} {B:Nat} {w0:World} {ops:Array Oper} {l:List Oper} {K:Env->List Row->Prop} {L:Env} {R:List Row} {op:Op} {ty:TypeId} {pos:String} {nj:Array Edge} {d:Nat}
theorem wy {v:Value} (hy:Yl P n B w0 op ty L R v) (h:WR P n B w0 ops l K ((d,v)::L) R) (hn:Nat.blt d n=true:=by exact rfl):WR P n B w0 ops ({dst:=some d,op:=op,type:=ty,pos:=pos,after:=nj,guard:=none}::l) K L R:=RX hn hy h
theorem wa {Post:Value->List Row->Prop} (ha:Ac P n B w0 op ty L R Post) (h: ∀v R',Post v R'->WR P n B w0 ops l K ((d,v)::L) R') (hn:Nat.blt d n=true:=by exact rfl):WR P n B w0 ops ({dst:=some d,op:=op,type:=ty,pos:=pos,after:=nj,guard:=none}::l) K L R:=bKh hn ha h
theorem wm {x:Operand} {v:Value} (hx:ev L x=some v) (h:WR P n B w0 ops l K ((d,v)::L) R) (hn:Nat.blt d n=true:=by exact rfl):WR P n B w0 ops ({dst:=some d,op:= .move x,type:=ty,pos:=pos,after:=nj,guard:=none}::l) K L R:=RX hn (aK hx) h
theorem wg {x:Operand} {v:Value} (hx:ev L x=some v) (h:WR P n B w0 ops l K ((d,v)::L) R) (hn:Nat.blt d n=true:=by exact rfl):WR P n B w0 ops ({dst:=some d,op:= .assign x,type:=ty,pos:=pos,after:=nj,guard:=none}::l) K L R:=RX hn (bB hx) h
theorem wA {x y:Operand} {t u:TypeId} {p q:Int} (hx:ev L x=some (.int .i64 p)) (hy:ev L y=some (.int .i64 q)) (h:WR P n B w0 ops l K ((d, .int .i64 (p+q))::L) R) (hn:Nat.blt d n=true:=by exact rfl) (hb: -9223372036854775808<=p+q/\p+q<=9223372036854775807:=by omega):WR P n B w0 ops ({dst:=some d,op:= .binOp .add t x y u,type:=ty,pos:=pos,after:=nj,guard:=none}::l) K L R:=RX hn (dK hx hy hb) h
theorem wS {x y:Operand} {t u:TypeId} {p q:Int} (hx:ev L x=some (.int .i64 p)) (hy:ev L y=some (.int .i64 q)) (h:WR P n B w0 ops l K ((d, .int .i64 (p-q))::L) R) (hn:Nat.blt d n=true:=by exact rfl) (hb: -9223372036854775808<=p-q/\p-q<=9223372036854775807:=by omega):WR P n B w0 ops ({dst:=some d,op:= .binOp .sub t x y u,type:=ty,pos:=pos,after:=nj,guard:=none}::l) K L R:=RX hn (nG hx hy hb) h
theorem wL {x y:Operand} {t u:TypeId} {k:IntKind} {p q:Int} (hx:ev L x=some (.int k p)) (hy:ev L y=some (.int k q)) (h:WR P n B w0 ops l K ((d, .bool (decide (p<q)))::L) R) (hn:Nat.blt d n=true:=by exact rfl):WR P n B w0 ops ({dst:=some d,op:= .binOp .lss t x y u,type:=ty,pos:=pos,after:=nj,guard:=none}::l) K L R:=RX hn (fO hx hy) h
theorem wQ {x y:Operand} {t u:TypeId} {k:IntKind} {p q:Int} (hx:ev L x=some (.int k p)) (hy:ev L y=some (.int k q)) (h:WR P n B w0 ops l K ((d, .bool false)::L) R) (hn:Nat.blt d n=true:=by exact rfl) (hb: ¬p=q:=by decide):WR P n B w0 ops ({dst:=some d,op:= .binOp .eql t x y u,type:=ty,pos:=pos,after:=nj,guard:=none}::l) K L R:=RX hn (Yl.f (gT hx hy) hb) h
theorem wR {x y:Operand} {t u:TypeId} {k:IntKind} {p q:Int} (hx:ev L x=some (.int k p)) (hy:ev L y=some (.int k q)) (h:WR P n B w0 ops l K ((d, .bool true)::L) R) (hn:Nat.blt d n=true:=by exact rfl) (hb:p=q:=by decide):WR P n B w0 ops ({dst:=some d,op:= .binOp .eql t x y u,type:=ty,pos:=pos,after:=nj,guard:=none}::l) K L R:=RX hn (Yl.t (gT hx hy) hb) h
theorem wX {i:Nat} {x:Operand} {vs:Array Value} {v:Value} (hx:ev L x=some (.tuple vs)) (hv:vs[i]? =some v) (h:WR P n B w0 ops l K ((d,v)::L) R) (hn:Nat.blt d n=true:=by exact rfl):WR P n B w0 ops ({dst:=some d,op:= .extract x i,type:=ty,pos:=pos,after:=nj,guard:=none}::l) K L R:=RX hn (CZ hx hv) h
theorem wD {v:Value} {aq:Nat} {ab:AI} (i:Nat) (hi:ops[i]? =some {dst:=some d,op:=op,type:=ty,pos:=pos,after:=nj,guard:=none}) (hy:Yl P n B w0 op ty L R v) (h:WD P n B w0 ops K aq (ab.setIfInBounds i true) ((d,v)::L) R) (hc:chk ops ab i=true:=by kernel_rfl) (hn:Nat.blt d n=true:=by exact rfl):WD P n B w0 ops K (aq+1) ab L R:=bKi i hi hc hn hy h
theorem wq {id:Nat} {l:List Oper} {y:Code} {Q:eZ} (h:WR P n B w0 l.toArray l (λL R=>W P n B w0 y Q L R) L R) (hd:BF n.rd l=true:=by exact rfl):W P n B w0 (.seq (.region id l.toArray false) y) Q L R:=aD (aJ h hd)
theorem mbA {p q:Prop} [Decidable p] [Decidable q] (h:p↔q:=by first|omega|exact⟨λh=>⟨cF,h⟩,λh=>h.2⟩|exact .inl cF|exact⟨.inr,λh=>h.resolve_left cF⟩|exact⟨λh=>h.resolve_left cF, .inr⟩|simp[*]):Value.bool (decide p)=Value.bool (decide q):=mb h
theorem mfA {p:Prop} [Decidable p] (h: ¬p:=by first|omega|exact⟨λh=>⟨cF,h⟩,λh=>h.2⟩|exact .inl cF|exact⟨.inr,λh=>h.resolve_left cF⟩|exact⟨λh=>h.resolve_left cF, .inr⟩|simp[*]):Value.bool false=Value.bool (decide p):=bKn h
theorem mtA {p:Prop} [Decidable p] (h:p:=by first|omega|exact⟨λh=>⟨cF,h⟩,λh=>h.2⟩|exact .inl cF|exact⟨.inr,λh=>h.resolve_left cF⟩|exact⟨λh=>h.resolve_left cF, .inr⟩|simp[*]):Value.bool true=Value.bool (decide p):=bKm h
theorem wG {j e:Nat} {want:Bool} {v:Value} {aq:Nat} {ab:AI} (i:Nat) (hi:ops[i]? =some {dst:=some d,op:=op,type:=ty,pos:=pos,after:=nj,guard:=some (j,want)}) (hj:(ops[j]?).bind (·.dst)=some e) (hb:lk L e=some (.bool want)) (hy:Yl P n B w0 op ty L R v) (h:WD P n B w0 ops K aq (ab.setIfInBounds i true) ((d,v)::L) R) (hc:chk ops ab i=true:=by kernel_rfl) (hn:Nat.blt d n=true:=by exact rfl):WD P n B w0 ops K (aq+1) ab L R:=bGj i hi hc hn hj hb hy h
theorem wO {j e:Nat} {want b:Bool} {aq:Nat} {ab:AI} (i:Nat) (hi:ops[i]? =some {dst:=some d,op:=op,type:=ty,pos:=pos,after:=nj,guard:=some (j,want)}) (hj:(ops[j]?).bind (·.dst)=some e) (hb:lk L e=some (.bool b)) (h:WD P n B w0 ops K aq (ab.setIfInBounds i true) ((d,undef)::L) R) (hc:chk ops ab i=true:=by kernel_rfl) (hn:Nat.blt d n=true:=by exact rfl) (cg:(b==want)=false:=by exact rfl):WD P n B w0 ops K (aq+1) ab L R:=bGk i hi hc hn hj hb cg h
theorem wC {Post:Value->List Row->Prop} {aq:Nat} {ab:AI} (i:Nat) (hi:ops[i]? =some {dst:=some d,op:=op,type:=ty,pos:=pos,after:=nj,guard:=none}) (ha:Ac P n B w0 op ty L R Post) (h: ∀v R',Post v R'->(MX ops ab i=true\/ ∀w,Hp B w0 w R'->Hp B w0 w R)/\WD P n B w0 ops K aq (ab.setIfInBounds i true) ((d,v)::L) R') (hr:Region.ready .any ops ab=[i]:=by kernel_rfl) (hn:Nat.blt d n=true:=by exact rfl):WD P n B w0 ops K (aq+1) ab L R:=bKj i hi hr hn ha h
theorem wN {aq:Nat} {ab:AI} (h:K L R) (hr:Region.ready .any ops ab=[]:=by kernel_rfl):WD P n B w0 ops K aq ab L R:=bDc hr h
theorem wn {x:Operand} {v:Value} (hx:ev L x=some v) (h:K ((d,v)::L) R) (hn:Nat.blt d n=true:=by exact rfl):WR P n B w0 ops ({dst:=some d,op:= .assign x,type:=ty,pos:=pos,after:=nj,guard:=none}::[]) K L R:=wg hx (aA h) hn
theorem sc {L1 L:Env} {t:Nat} {v:Value} (h:lk L t=some v) (hs:Sub L1 L):Sub ((t,v)::L1) L:=Sub.cons h hs
theorem SA {L1 L:Env} (h:Sub L1 L:=by repeat' first|exact Sub.nil|refine sc rfl ?_|refine Sub.to rfl mbA ?_|refine Sub.to rfl mfA ?_|refine Sub.to rfl mtA ?_):Sub L1 L:=h
theorem KP {L1 L:Env} {R1 R:List Row} (h:Sub L1 L:=by repeat' first|exact Sub.nil|refine sc rfl ?_|refine Sub.to rfl mbA ?_|refine Sub.to rfl mfA ?_|refine Sub.to rfl mtA ?_) (e:R=R1:=by exact rfl):Sub L1 L/\ ∀w,Hp B w0 w R->Hp B w0 w R1:=⟨h,λ_ hw=>e▸hw⟩
theorem hiZ: ∀w,Hp B w0 w R->Hp B w0 w R:=λ_ h=>h
theorem hrZ {r:Row}: ∀w,Hp B w0 w (r::R)->Hp B w0 w R:=λ_ h=>h.tail
abbrev CT:= @Ct Go.Proofs.Tryz.prog
abbrev CF (f:FuncId) (a:Array Value) (w:World) (Q:Value->List Row->Prop):Prop:=Ct Go.Proofs.Tryz.prog f a w.heap.size w [] Q
abbrev I (x:Int):Value:= .int .i64 x
abbrev GG (g:Nat):AF:=some ⟨g,0,none⟩
abbrev PG (g:Nat):Value:= .pointer (GG g)
abbrev sl (A:AF) (m c:Nat):Value:= .slice A m c
abbrev bt:Value:= .bool true
abbrev bf:Value:= .bool false
abbrev rc (e s g:Nat) (l:AG):Row:=⟨e,s,some ⟨g,0,none⟩,1,1,l,false⟩
abbrev ri (e:TypeId) (A:AF) (m c:Nat) (l:AH):Row:=⟨e,1,A,m,c,ints .i64 l,false⟩
abbrev ru (e:TypeId) (A:AF) (m c:Nat) (l:AH):Row:=⟨e,1,A,m,c,ints .u8 l,false⟩
end
end Go.Eng
namespace Go.Proofs.YtdbebmmhdefgdaaGreat
open Go Go.Eng
theorem mixed:Tryz.prog.follows .mixedOrders=true:=cA
theorem sz2:(Tryz.prog.info? 2).map (·.size)=some 1:=cA
theorem sz3:(Tryz.prog.info? 3).map (·.size)=some 1:=cA
theorem zb3:(Tryz.prog.info? 3).map (λi=>(i.zero,i.size,i.bytes))=some (some (.int .i64 0),1,8):=cA
theorem zs3:(Tryz.prog.info? 3).map (λi=>(i.zero,i.size))=some (some (.int .i64 0),1):=cA
theorem sz4:(Tryz.prog.info? 4).map (·.size)=some 1:=cA
theorem zb4:(Tryz.prog.info? 4).map (λi=>(i.zero,i.size,i.bytes))=some (some (.bool false),1,1):=cA
theorem sz5:(Tryz.prog.info? 5).map (·.size)=some 1:=cA
theorem zb5:(Tryz.prog.info? 5).map (λi=>(i.zero,i.size,i.bytes))=some (some (.int .u8 0),1,1):=cA
theorem zs5:(Tryz.prog.info? 5).map (λi=>(i.zero,i.size))=some (some (.int .u8 0),1):=cA
theorem bKl:(Tryz.prog.info? 21).map (·.size)=some 1:=cA
theorem dP:(Tryz.prog.info? 22).map (·.size)=some 1:=cA
theorem xV:(Tryz.prog.info? 22).map (λi=>(i.zero,i.size,i.bytes))=some (some (.slice none 0 0),1,24):=cA
theorem mJ:(Tryz.prog.info? 22).map (λi=>(i.zero,i.size))=some (some (.slice none 0 0),1):=cA
theorem aWi:(Tryz.prog.info? 22).map (·.zero)=some (some (.slice none 0 0)):=cA
theorem kL:(Tryz.prog.info? 23).map (·.size)=some 1:=cA
theorem kK:(Tryz.prog.info? 25).map (·.size)=some 2:=cA
theorem aAl:(Tryz.prog.info? 25).map (·.zero)=some (some (.agg #[(.slice none 0 0),(.slice none 0 0)])):=cA
theorem eF:(Tryz.prog.info? 27).map (·.size)=some 4:=cA
theorem aAk:(Tryz.prog.info? 27).map (·.zero)=some (some (.agg #[(.int .i64 0),(.int .i64 0),(.int .i64 0),(.int .i64 0)])):=cA
theorem iL:(Tryz.prog.info? 52).map (·.size)=some 1:=cA
theorem bKg:(Tryz.prog.info? 52).map (λi=>(i.zero,i.size,i.bytes))=some (some (.slice none 0 0),1,24):=cA
theorem bGb:(Tryz.prog.info? 52).map (λi=>(i.zero,i.size))=some (some (.slice none 0 0),1):=cA
theorem bKf:(Tryz.prog.info? 52).map (·.zero)=some (some (.slice none 0 0)):=cA
theorem VP:(Tryz.prog.info? 84).map (·.size)=some 1:=cA
theorem dX:(Tryz.prog.info? 112).map (·.size)=some 1:=cA
theorem OS:(Tryz.prog.info? 117).map (·.size)=some 2:=cA
theorem bGd:(Tryz.prog.info? 117).map (λi=>(i.zero,i.size,i.bytes))=some (some (.agg #[(.slice none 0 0),(.int .i64 0)]),2,32):=cA
theorem bGc:(Tryz.prog.info? 117).map (λi=>(i.zero,i.size))=some (some (.agg #[(.slice none 0 0),(.int .i64 0)]),2):=cA
theorem bBd:(Tryz.prog.info? 117).map (·.zero)=some (some (.agg #[(.slice none 0 0),(.int .i64 0)])):=cA
theorem aPd:(Tryz.prog.info? 123).map (·.size)=some 1:=cA
theorem aPc:(Tryz.prog.info? 135).map (·.size)=some 1:=cA
theorem aPb:(Tryz.prog.info? 136).map (·.size)=some 3:=cA
theorem zR:(Tryz.prog.info? 185).map (·.size)=some 1:=cA
theorem bGp:(Tryz.prog.info? 198).map (·.size)=some 3:=cA
theorem bGo:(Tryz.prog.info? 200).map (·.size)=some 1:=cA
theorem bBq:(Tryz.prog.info? 201).map (·.size)=some 256:=cA
theorem VQ:(Tryz.prog.info? 228).map (·.size)=some 1:=cA
theorem lC:(Tryz.prog.info? 230).map (·.size)=some 2:=cA
theorem bBf:(Tryz.prog.info? 230).map (λi=>(i.zero,i.size,i.bytes))=some (some (.agg #[(.int .i64 0),(.int .i64 0)]),2,16):=cA
theorem bBe:(Tryz.prog.info? 230).map (λi=>(i.zero,i.size))=some (some (.agg #[(.int .i64 0),(.int .i64 0)]),2):=cA
theorem aEv:(Tryz.prog.info? 230).map (·.zero)=some (some (.agg #[(.int .i64 0),(.int .i64 0)])):=cA
theorem OQ:(Tryz.prog.info? 248).map (·.size)=some 3:=cA
theorem aPa:(Tryz.prog.info? 269).map (·.size)=some 1:=cA
theorem bGn:(Tryz.prog.info? 350).map (·.size)=some 1:=cA
theorem bGa:(Tryz.prog.info? 350).map (·.zero)=some (some (.pointer none)):=cA
abbrev aUe:=enters Ki cA cA
abbrev aZx:=enters Kj cA cA
abbrev bFc:=enters Tryz.func20 cA cA
abbrev bFb:=enters Tryz.func21 cA cA
abbrev aZw:=enters Tryz.func22 cA cA
abbrev aMm:=enters Tryz.func23 cA cA
abbrev aZv:=enters Tryz.func25 cA cA
abbrev bFa:=enters Fz cA cA
abbrev wE:=enters Tryz.func37 cA cA
abbrev xX:=enters Tryz.func38 cA cA
abbrev bHf:=enters Tryz.func39 cA cA
abbrev bHe:=enters Tryz.func40 cA cA
abbrev bHd:=enters Ie cA cA
abbrev bKy:=enters Tryz.func47 cA cA
abbrev bEz:=enters Tryz.func50 cA cA
abbrev bEy:=enters Kk cA cA
abbrev bKx:=enters Tryz.func52 cA cA
abbrev bKw:=enters Tryz.func53 cA cA
abbrev aMl:=enters Tryz.func57 cA cA
abbrev bKv:=enters Tryz.func60 cA cA
abbrev bKu:=enters Tryz.func67 cA cA
abbrev aMk:=enters Kl cA cA
abbrev bKt:=enters Tryz.func69 cA cA
abbrev bKs:=enters Tryz.func70 cA cA
abbrev bHc:=enters Tryz.func71 cA cA
abbrev bHb:=enters Tryz.func72 cA cA
abbrev bHa:=enters Tryz.func73 cA cA
abbrev aZu:=enters Ig cA cA
abbrev aTu:=enters Tryz.func75 cA cA
abbrev aZt:=enters Tryz.func76 cA cA
abbrev YM:=enters Tryz.func77 cA cA
abbrev YL:=enters Tryz.func78 cA cA
abbrev bKr:=enters Ih cA cA
abbrev bGz:=enters Tryz.func87 cA cA
abbrev bEx:=enters Tryz.func89 cA cA
abbrev EF:=enters Tryz.func90 cA cA
abbrev bGy:=enters Ii cA cA
abbrev bEw:=enters Tryz.func92 cA cA
abbrev bEv:=enters Tryz.func93 cA cA
abbrev bKq:=enters Tryz.func94 cA cA
abbrev bGx:=enters Tryz.func95 cA cA
abbrev bGw:=enters Tryz.func96 cA cA
abbrev bJw:=enters Tryz.func104 cA cA
abbrev bCv:=enters Tryz.func105 cA cA
abbrev bJv:=enters Tryz.func106 cA cA
abbrev bCu:=enters Tryz.func107 cA cA
abbrev bJu:=enters Tryz.func109 cA cA
abbrev bJt:=enters Tryz.func110 cA cA
abbrev bJs:=enters Tryz.func111 cA cA
abbrev aUi:=enters Jl cA cA
abbrev bJr:=enters Tryz.func115 cA cA
abbrev bJq:=enters Tryz.func116 cA cA
abbrev bJp:=enters Tryz.func117 cA cA
abbrev bJo:=enters Tryz.func118 cA cA
abbrev bCt:=enters Tryz.func119 cA cA
abbrev bCs:=enters Tryz.func120 cA cA
abbrev YR:=enters Tryz.func121 cA cA
abbrev bCr:=enters Tryz.func122 cA cA
abbrev bJn:=enters Tryz.func124 cA cA
abbrev bJm:=enters Tryz.func125 cA cA
abbrev bCq:=enters Tryz.func126 cA cA
abbrev bCp:=enters Tryz.func127 cA cA
abbrev bJl:=enters Tryz.func128 cA cA
abbrev bJk:=enters Tryz.func129 cA cA
abbrev nE:=enters Jm cA cA
abbrev QP:=enters Tryz.func131 cA cA
abbrev aUh:=enters Tryz.func132 cA cA
abbrev MC:=enters Tryz.func133 cA cA
abbrev QO:=enters Jn cA cA
abbrev bJj:=enters Tryz.func135 cA cA
abbrev bJi:=enters Tryz.func136 cA cA
abbrev bJh:=enters Tryz.func146 cA cA
abbrev bJg:=enters Tryz.func147 cA cA
abbrev bJf:=enters Tryz.func148 cA cA
abbrev aUg:=enters Jo cA cA
abbrev aUf:=enters Tryz.func150 cA cA
abbrev aHs:=enters Tryz.func156 cA cA
abbrev bJe:=enters Tryz.func157 cA cA
abbrev aHr:=enters Gp cA cA
abbrev aHq:=enters Gq cA cA
abbrev aHp:=enters Tryz.func160 cA cA
abbrev aHo:=enters Gr cA cA
abbrev bJd:=enters Tryz.func162 cA cA
abbrev bJc:=enters Tryz.func163 cA cA
abbrev bJb:=enters Tryz.func178 cA cA
abbrev bCo:=enters Tryz.func179 cA cA
abbrev bJa:=enters Tryz.func182 cA cA
abbrev bCn:=enters Tryz.func183 cA cA
abbrev bCm:=enters Tryz.func184 cA cA
abbrev bIz:=enters Tryz.func185 cA cA
abbrev aUd:=enters Tryz.func186 cA cA
abbrev bIy:=enters Tryz.func189 cA cA
abbrev bIx:=enters Tryz.func190 cA cA
abbrev bCl:=enters Jq cA cA
abbrev bCk:=enters Tryz.func197 cA cA
abbrev bIw:=enters Tryz.func198 cA cA
abbrev bIv:=enters Tryz.func199 cA cA
abbrev aUc:=enters Tryz.func200 cA cA
abbrev bCj:=enters Tryz.func201 cA cA
abbrev bCi:=enters Tryz.func202 cA cA
abbrev bCh:=enters Tryz.func203 cA cA
abbrev bIu:=enters Tryz.func204 cA cA
abbrev aUb:=enters Tryz.func205 cA cA
abbrev aUa:=enters Tryz.func206 cA cA
abbrev bIt:=enters Tryz.func209 cA cA
abbrev bIs:=enters Tryz.func219 cA cA
abbrev bIr:=enters Tryz.func220 cA cA
abbrev bIq:=enters Tryz.func221 cA cA
abbrev bIp:=enters Tryz.func227 cA cA
abbrev bIo:=enters Tryz.func228 cA cA
abbrev bIn:=enters Tryz.func229 cA cA
abbrev bIm:=enters Tryz.func230 cA cA
abbrev bIl:=enters Tryz.func237 cA cA
abbrev bIk:=enters Tryz.func238 cA cA
abbrev LZ:=enters Tryz.func239 cA cA
abbrev bIj:=enters Tryz.func240 cA cA
abbrev aTz:=enters Tryz.func241 cA cA
abbrev bIi:=enters Tryz.func242 cA cA
abbrev YQ:=enters Tryz.func264 cA cA
abbrev bCg:=enters Tryz.func265 cA cA
abbrev bCf:=enters Tryz.func266 cA cA
abbrev bIh:=enters Tryz.func267 cA cA
abbrev bIg:=enters Tryz.func268 cA cA
abbrev bIf:=enters Tryz.func269 cA cA
abbrev bIe:=enters Tryz.func270 cA cA
abbrev bId:=enters Tryz.func271 cA cA
abbrev bIc:=enters Tryz.func272 cA cA
abbrev bIb:=enters Tryz.func273 cA cA
abbrev aTy:=enters Tryz.func274 cA cA
abbrev bIa:=enters Tryz.func275 cA cA
abbrev bHz:=enters Tryz.func276 cA cA
abbrev bHy:=enters Tryz.func277 cA cA
abbrev aHn:=enters Tryz.func278 cA cA
abbrev YP:=enters Tryz.func279 cA cA
abbrev aHm:=enters Tryz.func280 cA cA
abbrev bCe:=enters Tryz.func290 cA cA
abbrev bCd:=enters Tryz.func291 cA cA
abbrev bHx:=enters Tryz.func292 cA cA
abbrev QN:=enters Tryz.func293 cA cA
abbrev bHw:=enters Tryz.func294 cA cA
abbrev bCc:=enters Tryz.func295 cA cA
abbrev bHv:=enters Tryz.func296 cA cA
abbrev bHu:=enters Tryz.func297 cA cA
abbrev bHt:=enters Tryz.func298 cA cA
abbrev bHs:=enters Tryz.func299 cA cA
abbrev aTx:=enters Tryz.func300 cA cA
abbrev aTw:=enters Tryz.func301 cA cA
abbrev aTv:=enters Tryz.func302 cA cA
abbrev bHr:=enters Tryz.func303 cA cA
abbrev bCb:=enters Tryz.func313 cA cA
abbrev bCa:=enters Tryz.func314 cA cA
abbrev bBz:=enters Tryz.func315 cA cA
abbrev bHq:=enters Tryz.func316 cA cA
abbrev bBy:=enters Tryz.func317 cA cA
abbrev bBx:=enters Tryz.func318 cA cA
abbrev bHp:=enters Tryz.func319 cA cA
abbrev bHo:=enters Tryz.func320 cA cA
abbrev bBw:=enters Tryz.func321 cA cA
abbrev bHn:=enters Tryz.func322 cA cA
abbrev bHm:=enters Tryz.func323 cA cA
abbrev YO:=enters Tryz.func324 cA cA
abbrev bHl:=enters Tryz.func325 cA cA
abbrev bHk:=enters Tryz.func326 cA cA
abbrev YN:=enters Tryz.func327 cA cA
abbrev bHj:=enters Tryz.func344 cA cA
abbrev bHi:=enters Tryz.func345 cA cA
abbrev bHh:=enters Tryz.func346 cA cA
abbrev bBv:=enters Tryz.func347 cA cA
abbrev bHg:=enters Tryz.func361 cA cA
end Go.Proofs.YtdbebmmhdefgdaaGreat
namespace Go.Pure
open Go.Eng
variable {i:Int} {u v:AH}
def kG (a b:Int):Int:=if a<b then -1 else if b<a then 1 else 0
def cmpL:AH->AH->Int
 |[],[]=>0
 |[],_::_=> -1
 |_::_,[]=>1
 |a::s,b::t=>if a<b then -1 else if b<a then 1 else cmpL s t
theorem eP {l:AH} (h0:0<=i) (h:i<l.length):l.drop i.toNat=rd l i::l.drop (i+1).toNat:=by
 have hl:i.toNat<l.length:=G
 have e:(i+1).toNat=i.toNat+1:=G
 rw[e,kz hl];simp[rd,af,av hl]
theorem EJ (h0:0<=i) (hu:i<u.length) (hv:i<v.length):
  cmpL (u.drop i.toNat) (v.drop i.toNat)=if rd u i<rd v i then -1 else if rd v i<rd u i then 1 else cmpL (u.drop (i+1).toNat) (v.drop (i+1).toNat):=by
 rw[eP h0 hu,eP h0 hv];rfl
theorem MM (h0:0<=i) (hu:i<=u.length) (hv:i<=v.length) (h: ¬(i<u.length/\i<v.length)):
  cmpL (u.drop i.toNat) (v.drop i.toNat)=if (u.length:Int)<v.length then -1 else if (v.length:Int)<u.length then 1 else 0:=by
 have nil: ∀(l:AH) (j:Int),(l.length:Int)<=j->l.drop j.toNat=[]:=λl j h=>qm G;by_cases h1:i<u.length
 ·have h2:i=v.length:=G
  rw[eP h0 h1,nil v i G,df G,di G];rfl
 ·by_cases h2:i<v.length
  ·rw [eP h0 h2,nil u i G,di G];rfl
  ·rw [nil u i G,nil v i G,df G,df G];rfl
theorem aMx (a b:Int):kG b a= -kG a b:=by unfold kG;split<;>split<;>omega
def rep (w:AH) (k:Int):AH:=(List.replicate k.toNat w).flatten
theorem nK (w:AH) (k:Int):(rep w k).length=k.toNat*w.length:=by
 unfold rep;rw[pq,List.map_replicate,List.sum_replicate_nat]
variable {d N:Nat} {c:Int}
def om (u:AH) (i:Nat):Int:=u.getD (i%u.length) 0
theorem bGs (u:AH) (k:Nat):rd u ((k:Int)%u.length)=om u k:=by
 unfold rd om;rw[<-ze,bq]
theorem oO {u:AH} {i:Nat} (h:i<u.length):om u i=u.getD i 0:=by
 unfold om;rw[mf h]
def Per (W:Nat->Int) (d:Nat):Prop:= ∀i,W (i+d)=W i
theorem rV (u:AH):Per (om u) u.length:=by
 intro i;unfold om;rw[Hz]
theorem Per.mul {W:Nat->Int} (h:Per W d): ∀k,Per W (d*k)
 |0=>λi=>by rw[Nat.mul_zero,qf]
 |k+1=>λi=>by rw[Nat.mul_succ,<-qi,h,h.mul k]
theorem Per.mod {W:Nat->Int} (h:Per W d) (i:Nat):W (i%d)=W i:=by
 have:=h.mul (i/d) (i%d);rw[Nat.mod_add_div] at this;exact this.symm
theorem Per.gcd {W:Nat->Int} (a b:Nat):Per W a->Per W b->Per W (Nat.gcd a b):=by
 induction a,b using Nat.gcd.induction with
 |H0 n=>intro _ h;rw[Nat.gcd_zero_left];exact h
 |H1 m n hm ih=>
  intro h1 h2;rw[Nat.gcd_rec];refine ih ?_ h1;intro i;have e:=h1.mul (n/m) (i+n%m);rw[qi,Nat.mod_add_div] at e;rw[<-e];exact h2 i
theorem agree {U V:Nat->Int} {p q:Nat} (hp:0<p) (hq:0<q) (hU:Per U p) (hV:Per V q) (h: ∀i,i<p+q->U i=V i): ∀i,U i=V i:=by
 intro i
 induction i using Nat.strongRecOn with
 | _ i ih=>
  by_cases hi:i<p+q
  ·exact h i hi
  ·have e1:U i=U (i-p):=by have:=hU (i-p);rw[qx G] at this;exact this
   have e2:V (i-p)=V (i-p-q):=by have:=hV (i-p-q);rw[qx G] at this;exact this
   have e3:U (i-q)=U (i-p-q):=by have:=hU (i-p-q);rw[show i-p-q+p=i-q by omega] at this;exact this
   have e4:V i=V (i-q):=by have:=hV (i-q);rw[qx G] at this;exact this
   rw[e1,ih (i-p) G,e2,<-ih (i-p-q) G,<-e3,ih (i-q) G,<-e4]
def FD (U V:Nat->Int) (N:Nat) (c:Int):Prop:=(c=0/\ ∀i,i<N->U i=V i)\/ ∃k,k<N/\(∀i,i<k->U i=V i)/\U k≠V k/\c=kG (U k) (V k)
theorem kT {a b:Int}:kG a b=0↔a=b:=by unfold kG;split<;>(try split)<;>omega
theorem FD.uniq {U V:Nat->Int} {M:Nat} {d:Int} (h:FD U V N c) (h':FD U V M d) (hc:c=0-> ∀i,i<M->U i=V i) (hd:d=0-> ∀i,i<N->U i=V i):c=d:=by
 rcases h with⟨rfl,h⟩|⟨k,hk,h,hn,e⟩
 ·rcases h' with⟨rfl,_⟩|⟨k',nv,_,Wo,e'⟩
  ·rfl
  ·exact absurd (hc rfl k' nv) Wo
 ·rcases h' with⟨rfl,h'⟩|⟨k',nv,h',Wo,e'⟩
  ·exact absurd (hd rfl k hk) hn
  ·have:k=k':=by
    by_cases h1:k<k'
    ·exact absurd (h' k h1) hn
    ·by_cases h2:k'<k
     ·exact absurd (h k' h2) Wo
     ·omega
   subst this;rw[e,e']
theorem FD.step {U V:Nat->Int} (h0:U 0=V 0) (h:FD (λi=>U (i+1)) (λi=>V (i+1)) N c):FD U V (N+1) c:=by
 rcases h with⟨rfl,h⟩|⟨k,hk,h,hn,e⟩
 ·refine .inl ⟨rfl,λi hi=> ?_⟩;cases i with
  |zero=>exact h0
  |succ i=>exact h i G
 ·refine .inr ⟨k+1,G,λi hi=> ?_,hn,e⟩;cases i with
  |zero=>exact h0
  |succ i=>exact h i G
def Lt (U V:Nat->Int):Prop:= ∃k,(∀i,i<k->U i=V i)/\U k<V k
theorem Lt.trans {U V W:Nat->Int} (h:Lt U V) (h':Lt V W):Lt U W:=by
 obtain⟨k,h,hk⟩:=h;obtain⟨m,h',hm⟩:=h';by_cases h1:k<m
 ·exact⟨k,λi hi=>by rw[h i hi,h' i G],by rw[<-h' k h1];exact hk⟩
 ·by_cases h2:m<k
  ·exact⟨m,λi hi=>by rw[h i G,h' i hi],by rw[h m h2];exact hm⟩
  ·have:k=m:=G
   subst this;exact⟨k,λi hi=>by rw[h i hi,h' i hi],G⟩
theorem JU (w:AH): ∀(k i:Nat),i<k*w.length->(rep w k).getD i 0=om w i
 |0,i,h=>G
 | k+1,i,h=>by
  have e:((k+1:Nat):Int)=1+(k:Int):=G
  have e2:rep w ((k+1:Nat):Int)=w++rep w k:=by
   unfold rep;rw[show((k+1:Nat):Int).toNat=k+1 by omega,List.replicate_succ];simp
  rw[e2];by_cases hi:i<w.length
  ·rw[oO hi,af,af,jf hi]
  ·rw [af,jh G,<-af,JU w k (i-w.length) (by rw[yg] at h;omega)];have:=rV w (i-w.length);rw[qx G] at this;exact this.symm
variable {u:AH} {f p:Nat}
def lpF (u:AH):Nat->Int->Int
 |0,_=>0
 |f+1,p=>if u.drop p.toNat=u.take ((u.length:Int)-p).toNat then p else lpF u f (p+1)
def lp (u:AH):Int:=lpF u u.length 1
theorem aGq {p:Int} (hf:0<f) (h:u.drop p.toNat=u.take ((u.length:Int)-p).toNat):lpF u f p=p:=by
 obtain⟨f,rfl⟩: ∃g,f=g+1:=⟨f-1,G⟩;rw[lpF,di h]
theorem aSd {p:Int} (hf:0<f) (h: ¬u.drop p.toNat=u.take ((u.length:Int)-p).toNat):lpF u f p=lpF u (f-1) (p+1):=by
 obtain⟨f,rfl⟩: ∃g,f=g+1:=⟨f-1,G⟩;rw[lpF,df h];rfl
def NG (u:AH) (p:Nat):Prop:=u.drop p=u.take (u.length-p)
theorem KL:NG u p↔ ∀i,i+p<u.length->u.getD (i+p) 0=u.getD i 0:=by
 constructor
 ·intro h i hi;have:=bg (λl=>l.getD i 0) h;simp only[af,su,pg] at this;rw[di G] at this;rw[af,af,ut];exact this
 ·intro h;refine sw cD λi h1 h2=> ?_;simp only[bn] at h1;have:=h i G;simp only[af] at this;rw[av G,av G] at this;simp only[oh] at this;rw[Dq,ym,<-this];simp only[ut]
theorem XL (u:AH): ∀(f:Nat) (p:Nat),1<=p->p+f=u.length+1->p<=u.length-> ∃r:Nat,lpF u f p=r/\p<=r/\r<=u.length/\NG u r/\ ∀q,p<=q->q<r-> ¬NG u q
 |0,p,_,h2,h3=>G
 | f +1,p,h1,h2,h3=>by
  have e:((u.length:Int)-(p:Int)).toNat=u.length-p:=G
  by_cases h:NG u p
  ·refine ⟨p,aGq G ?_,dn _,h3,h,λq a b=>G⟩;rw[bq,e];exact h
  ·rw [aSd G (by rw[bq,e];exact h)]
   have bo:p<u.length:=by
    rcases gu p u.length with h'|h'
    ·exact h'
    ·have:p=u.length:=G
     subst this;exact absurd (by unfold NG;simp) h
   obtain⟨r,hr,h4,h5,h6,h7⟩:=XL u f (p+1) G G G;refine⟨r,?_,G,h5,h6,λq a b=> ?_⟩
   ·rw[<-hr];rfl
   ·by_cases hq:q=p
    ·subst hq;exact h
    ·exact h7 q G b
theorem HZ (h:0<u.length): ∃r:Nat,lp u=r/\1<=r/\r<=u.length/\NG u r/\ ∀q,1<=q->q<r-> ¬NG u q:=
 XL u u.length 1 (dn 1) G h
def rl (u:AH):Int:=if (u.length:Int)%lp u≠0 then u.length else lp u
theorem WZ (hp:0<p) (h:NG u p): ∀i,i<u.length->u.getD i 0=u.getD (i%p) 0:=by
 intro i
 induction i using Nat.strongRecOn with
 | _ i ih=>
  intro hi;by_cases bo:i<p
  ·rw[mf bo]
  ·have:=KL.1 h (i-p) G;rw[qx G] at this;rw[this,ih (i-p) G G,<-Ak G]
theorem aGj (hp:0<p) (hn:p<=u.length) (i:Nat):om (u.take p) i=u.getD (i%p) 0:=by
 unfold om;rw[ax,zl hn];simp only[af];rw[pg,di (yx _ hp)]
theorem aYl (hp:0<p) (hn:p<=u.length) (hd:p∣u.length) (h:NG u p) (i:Nat):om u i=om (u.take p) i:=by
 rw[aGj hp hn];unfold om;rw[WZ hp h _ (yx _ G),Nat.mod_mod_of_dvd _ hd]
theorem aGg {d:Nat} (h:Per (om u) d):NG u d:=by
 refine KL.2 λi hi=> ?_;rw[<-oO hi,<-oO (by omega:i<u.length)];exact h i
theorem SQ (h:0<u.length): ∃r:Nat,rl u=r/\1<=r/\r<=u.length/\(∀i,om u i=om (u.take r) i)/\ ∀d,1<=d->Per (om u) d->r<=d:=by
 obtain⟨p,hp,h1,h2,h3,h4⟩:=HZ h
 have key: ∀d,1<=d->Per (om u) d->d<u.length->p∣u.length/\p<=d:=by
  intro d hd mm bo;have hg:Per (om u) (Nat.gcd d u.length):=Per.gcd _ _ mm (rV u);have g1:Nat.gcd d u.length∣u.length:=Nat.gcd_dvd_right _ _;have g2:Nat.gcd d u.length<=d:=Nat.le_of_dvd G (Nat.gcd_dvd_left _ _);have g3:0<Nat.gcd d u.length:=Nat.gcd_pos_of_pos_left _ G;generalize Nat.gcd d u.length=g at*
  have p1:p<=g:=by
   rcases gu g p with a|a
   ·exact absurd (aGg hg) (h4 g g3 a)
   ·exact a
  have g4:2*g<=u.length:=by
   obtain⟨k,hk⟩:=g1
   have:2<=k:=by
    rcases gu k 2 with a|a
    ·have:k=0\/k=1:=G
     rcases this with rfl|rfl<;>omega
    ·exact a
   rw[hk]
   calc 2*g<=k*g:=ul _ this
    _=g*k:=zt _ _
  have ag: ∀i,om (u.take p) i=om u i:=by
   refine agree (p:=p) (q:=g) G g3 ?_ hg λi hi=> ?_
   ·have:=rV (u.take p);rwa[ax,zl h2] at this
   ·rw[aGj G h2,oO G,<-WZ G h3 i G]
  have pp:Per (om u) p:=by
   intro i;rw[<-ag,<-ag];have:=rV (u.take p) i;rwa[ax,zl h2] at this
  have hh:Per (om u) (Nat.gcd p u.length):=Per.gcd _ _ pp (rV u);have e1:Nat.gcd p u.length∣p:=Nat.gcd_dvd_left _ _;have e2:Nat.gcd p u.length∣u.length:=Nat.gcd_dvd_right _ _;have e3:0<Nat.gcd p u.length:=Nat.gcd_pos_of_pos_left _ G;have e4:=Nat.le_of_dvd G e1
  have e5:p<=Nat.gcd p u.length:=by
   rcases gu (Nat.gcd p u.length) p with a|a
   ·exact absurd (aGg hh) (h4 _ e3 a)
   ·exact a
  have e6:Nat.gcd p u.length=p:=G
  rw[e6] at e2;exact⟨e2,G⟩
 by_cases hd:p∣u.length
 ·refine ⟨p,?_,h1,h2,aYl G h2 hd h3,λd a b=> ?_⟩
  ·unfold rl;rw[hp,df]
   ·intro hn;refine hn ?_;rw[<-ze,Nat.mod_eq_zero_of_dvd hd];rfl
  ·rcases gu d u.length with c|c
   ·exact(key d a b c).2
   ·omega
 ·refine ⟨u.length,?_,G,dn _,λi=>by rw[qa],λd a b=> ?_⟩
  ·unfold rl;rw[hp,di];intro hz;rw[<-ze] at hz;exact hd (Nat.dvd_of_mod_eq_zero G)
  ·rcases gu d u.length with c|c
   ·exact absurd (key d a b c).1 hd
   ·exact c
theorem oL (h:0<u.length):1<=rl u/\rl u<=u.length:=by
 obtain⟨r,e,h1,h2,_⟩:=SQ h;omega
theorem LH (h:0<u.length):1<=lp u/\lp u<=u.length:=by
 obtain⟨r,e,h1,h2,_⟩:=HZ h;omega
theorem aRn {a:Nat} (hu:0<u.length) (ha:0<a) (i:Nat):om (rep u a) i=om u i:=by
 have l:(rep u a).length=a*u.length:=by rw[nK,bq]
 have hp:0<a*u.length:=Ib ha hu;have hm:i%(a*u.length)<a*u.length:=yx _ hp;have e:om (rep u a) i=(rep u a).getD (i%(rep u a).length) 0:=rfl;rw[e,l,JU u a _ hm];unfold om;rw[Nat.mod_mod_of_dvd _ (Nat.dvd_mul_left _ _)]
end Go.Pure
namespace Go.Eng
open Go Go.RowKit
variable {w:World}
theorem aFv (k:IntKind):Rd w none ([]:AH).length 0 1 (ints k []):=⟨rfl,cD,cD,λj v hv=>by simp[ints] at hv⟩
theorem aXx {k:IntKind} {x:Addr} {len cap:Nat} {zs:AH} (hl:len<=cap) (hm:cap<=maxLen) (hz:zs.length=cap) (tz: ∀i,i<zs.length->w.cell? (x.add i)=some (.int k (zs.getD i 0))) (hwz: ∀n∈zs,(Lit.int k n).wf=true):
  ∃l:AH,len=l.length/\Rd w (some x) l.length cap 1 (ints k l)/\ ∀n∈l,(Lit.int k n).wf=true:=by
 unfold maxLen at hm;have hlen:(zs.take len).length=len:=by rw[ax];omega
 refine⟨zs.take len,hlen.symm,⟨by rw[bO];omega,G,G,λj v hv=>⟨x,rfl,?_⟩⟩,λn hn=>hwz n (ll hn)⟩
 have hj:j<len:=by
  rcases gu j len with h|h
  ·exact h
  ·rw[lm (by rw[bO];omega)] at hv;cases hv
 rw[tz j G];have hjz:j<zs.length:=G
 simp[ints,hj,av hjz] at hv;subst hv;simp[af,av hjz]
theorem byteL_wf {l:AH} (h: ∀x∈l,(Lit.int .u8 x).wf=true):aL l:=λx hx=>by
 have:=h x hx;have:=bounds_u8 this;omega
end Go.Eng
namespace Go.Eng
open Go
section
variable {P:Program} {n:Nd} {B:Nat} {w0:World} {L:Env} {R:List Row} {ty:TypeId}
theorem CV (g j:Nat):(⟨g,0,none⟩:Addr).add j=⟨g,j,none⟩:=by unfold Addr.add;split<;>simp_all
theorem Hp.cellAt {w:World} (h:Hp B w0 w R) (i:Nat) {r:Row} {g j:Nat} {v:Value} (hi:R[i]? =some r) (hA:r.A=some ⟨g,0,none⟩) (hv:r.xs[j]? =some v):w.cell? ⟨g,j,none⟩=some v:=by
 obtain⟨a,ha,hc⟩:=(Row.rd (h.own r (gq hi))).cell hv;rw[hA] at ha;simp only[pat,jy,lv] at ha;rw[CV] at ha;rw[ha];exact hc
theorem Hp.openAt {w:World} (h:Hp B w0 w R) (i:Nat) {r:Row} {g:Nat} (j:Nat) (hi:R[i]? =some r) (mt:r.ro=false) (hA:r.A=some ⟨g,0,none⟩):w.frozen? ⟨g,j,none⟩=false:=by
 have hw:=Row.lies_w (h.own r (gq hi)) mt;rcases hw.2 with⟨hn,_⟩|⟨g',cap,cur,hs,hb,hg,_⟩
 ·rw[hA] at hn;cases hn
 ·rw [hA] at hs;simp only[jv,lv,Bb,Ag,zy] at hs;obtain⟨rfl,rfl⟩:=hs;unfold World.frozen?;simp[hg]
theorem VM {α:Type} (l:List α) (j k:Nat) (v:α):(l.set j v).take k=(l.take k).set j v:=by
 apply uj;intro i;simp only[pg,wz,ax];by_cases h1:i<k
 ·by_cases h2:j=i
  ·subst h2;have e:(j<min k l.length)=(j<l.length):=by rw[eq_iff_iff];omega
   simp[h1,e]
  ·simp[h1,h2]
 ·by_cases h2:j=i
  ·subst h2;have e: ¬j<min k l.length:=G
   simp[h1,e]
  ·simp[h1,h2]
theorem Hp.set1 {w:World} (h:Hp B w0 w R) (i:Nat) {r:Row} {g j:Nat} {v:Value} (hi:R[i]? =some r) (mt:r.ro=false) (hA:r.A=some ⟨g,0,none⟩):Hp B w0 (w.setCell ⟨g,j,none⟩ v) (R.set i {r with xs:=r.xs.set j v}):=by
 have hw:=Row.lies_w (h.own r (gq hi)) mt;rcases hw.2 with⟨hn,_⟩|⟨g',cap,cur,hs,hb,hg,hnc,pt,ie,ht⟩
 ·rw[hA] at hn;cases hn
 ·rw [hA] at hs;simp only[jv,lv,Bb,Ag,zy] at hs;obtain⟨rfl,rfl⟩:=hs;have bo:g<w.heap.size:=(gp.1 hg).1;have Rp:w.heap[g]= .cells cur r.e (0,0):=(gp.1 hg).2
  have Wh:(w.setCell ⟨g,j,none⟩ v).heap[g]? =some (.cells (cur.setIfInBounds j v) r.e (0,0)):=by
   simp[World.setCell,bo,Array.getElem_modify,Rp]
  refine h.upd hi (row:=some g) ⟨rfl,rfl,rfl,by simp[World.setCell],λk _ hk=> ?_⟩ (dn _) (λk hk=> ?_) ?_ (λa' nb=> .inl ⟨a',nb,rfl⟩)
  ·have: ¬g=k:=λe=>hk (by simp[e]);simp[World.setCell,uy,this]
  ·obtain rfl:=jd hk;exact⟨_,hA,rfl⟩
  ·unfold Row.lies;simp only[mt];refine⟨by simpa using hw.1, .inr ⟨g,r.c,_,by rw[hA],hb,Wh,hnc,pt,by simpa using ie,?_⟩⟩;rw[Array.toList_setIfInBounds,VM,ht]
theorem aIj {f:FuncId} {An:List Operand} {ts:Array TypeId} {vs:AG} {v:Value} {R1:List Row} (ha:evs L An=some vs) (hc: ∀w,Hp B w0 w R-> ∃w',(callFunc f vs.toArray).run P w= .ok (.value v) w'/\Hp B w0 w' R1):
  Ac P n B w0 (.call {callee:= .value (.func f),args:=An.toArray,argTypes:=ts}) ty L R (λu R'=>u=v/\R'=R1):=by
 intro a w o K Q ho _ hs hp hk;have e1:=hs.evs ha;obtain⟨w',hr,cv⟩:=hc w hp;have hf:ev L (.func f)=some (.func (.func f) #[] #[]):=rfl;unfold Oper.wp;simp only[execOp,ho,resolve,hs.ev hf,Deferred.ofValue,invoke,jl,nu,jo,tq,e1,uh,ig,ji,hr,Oper.upon];exact hk _ _ _ cv ⟨rfl,rfl⟩
end
def bv (x:BitVec 32):Int:=(x.toNat:Int)
theorem zH (m:Nat) (h:m<4294967296):IntKind.u32.wrap (m:Int)=m:=by
 rw[IntKind.wrap_u32];omega
theorem sQ (x:BitVec 32):BitVec.ofInt 32 (bv x)=x:=by
 apply BitVec.eq_of_toNat_eq;unfold bv;have:=x.isLt;simp
theorem aVf {x y:BitVec 32} (h:bv x=bv y):x=y:=by
 have:=bg (BitVec.ofInt 32) h;rwa[sQ,sQ] at this
theorem aWk (p:Int):IntKind.u32.wrap p=bv (BitVec.ofInt 32 p):=by
 rw[IntKind.wrap_u32];unfold bv;rw[Cv];omega
section
variable {P:Program} {n:Nd} {B:Nat} {w0:World} {L:Env} {R:List Row} {ty:TypeId}
theorem aXj (p q:BitVec 32) (w:World):(Op.intBits .and .u32 (bv p) (bv q)).run P w= .ok (.int .u32 (bv (p &&& q))) w:=by
 show Result.ok (Value.int .u32 (IntKind.u32.wrap ((BitVec.ofInt 32 (bv p) &&& BitVec.ofInt 32 (bv q)).toNat:Int))) w=_;rw[sQ,sQ,zH _ (BitVec.isLt _)];rfl
theorem aXf (p q:BitVec 32) (w:World):(Op.intBits .xor .u32 (bv p) (bv q)).run P w= .ok (.int .u32 (bv (p^^^q))) w:=by
 show Result.ok (Value.int .u32 (IntKind.u32.wrap ((BitVec.ofInt 32 (bv p)^^^BitVec.ofInt 32 (bv q)).toNat:Int))) w=_;rw[sQ,sQ,zH _ (BitVec.isLt _)];rfl
theorem aXg (p:BitVec 32) (j:IntKind) (k:Nat) (hk:k<=32) (w:World):(Op.shift .shr .u32 (bv p) j (k:Int)).run P w= .ok (.int .u32 (bv (p>>>k))) w:=by
 have hn: ¬((k:Int)<0):=G
 have hm:min (k:Int).toNat (IntKind.bits .u32)=k:=by
  have:IntKind.bits .u32=32:=rfl;omega
 have he:Int.fdiv (bv p) (2^k)=bv (p>>>k):=by
  unfold bv;rw[BitVec.toNat_ushiftRight,Nat.shiftRight_eq_div_pow,Bi _ (by exact uz G)];simp
 unfold Op.shift;rw[df hn];simp only[hm,nu];rw[he]
theorem aOe {x y:Operand} {t u:TypeId} {p q:BitVec 32} (hx:ev L x=some (.int .u32 (bv p))) (hy:ev L y=some (.int .u32 (bv q))):Yl P n B w0 (.binOp .and t x y u) ty L R (.int .u32 (bv (p &&& q))):=by
 intro a w o ho _ hs _;simp[execOp,ho,binOp,eqGuard,hs.ev hx,hs.ev hy,aXj]
theorem RQ {x y:Operand} {t u:TypeId} {p q:BitVec 32} (hx:ev L x=some (.int .u32 (bv p))) (hy:ev L y=some (.int .u32 (bv q))):Yl P n B w0 (.binOp .xor t x y u) ty L R (.int .u32 (bv (p^^^q))):=by
 intro a w o ho _ hs _;simp[execOp,ho,binOp,eqGuard,hs.ev hx,hs.ev hy,aXf]
theorem aNy {x y:Operand} {t u:TypeId} {p:BitVec 32} {j:IntKind} {k:Nat} (hx:ev L x=some (.int .u32 (bv p))) (hy:ev L y=some (.int j (k:Int))) (hk:Nat.ble k 32=true):Yl P n B w0 (.binOp .shr t x y u) ty L R (.int .u32 (bv (p>>>k))):=by
 intro a w o ho _ hs _;simp[execOp,ho,binOp,eqGuard,hs.ev hx,hs.ev hy,aXg p j k (ak hk)]
theorem aFb {x:Operand} {s d:TypeId} {j:IntKind} {p:Int} {td:TypeDesc} (eh:P.underlying s=some td) (hd:P.underlying d=some (.int .u32)) (hx:ev L x=some (.int j p)):Yl P n B w0 (.convert s d x) ty L R (.int .u32 (bv (BitVec.ofInt 32 p))):=by
 have:=qF (P:=P) (n:=n) (B:=B) (w0:=w0) (R:=R) (ty:=ty) eh hd hx;rwa[aWk] at this
theorem bGh {x y:Operand} {t u:TypeId} {p q:BitVec 32} (hx:ev L x=some (.int .u32 (bv p))) (hy:ev L y=some (.int .u32 (bv q))):Yl P n B w0 (.binOp .eql t x y u) ty L R (.bool (decide (p=q))):=by
 have:=gT (P:=P) (n:=n) (B:=B) (w0:=w0) (R:=R) (ty:=ty) (t:=t) (u:=u) hx hy
 have e:(decide (bv p=bv q))=decide (p=q):=by
  rw[wh];exact⟨aVf,λh=>by rw[h]⟩
 rwa[e] at this
theorem aEz {x y:Operand} {t u:TypeId} {p q:BitVec 32} (hx:ev L x=some (.int .u32 (bv p))) (hy:ev L y=some (.int .u32 (bv q))):Yl P n B w0 (.binOp .neq t x y u) ty L R (.bool (decide (p≠q))):=by
 have:=iI (P:=P) (n:=n) (B:=B) (w0:=w0) (R:=R) (ty:=ty) (t:=t) (u:=u) hx hy
 have e:(decide (bv p≠bv q))=decide (p≠q):=by
  rw[wh];exact⟨λh e=>h (by rw[e]),λh e=>h (aVf e)⟩
 rwa[e] at this
theorem SK (k:Nat) (t d:TypeId) (p:AF) (ht:P.underlying t=some (.pointer d)) (w:World):(Op.equalIn (k+1) t (.pointer p) (.pointer none)).run P w= .ok p.isNone w:=by
 cases p<;>simp[Op.equalIn,mo ht,samePointer]
theorem JK (t d:TypeId) (p:AF) (ht:P.underlying t=some (.pointer d)) (w:World):(Op.equal t (.pointer p) (.pointer none)).run P w= .ok p.isNone w:=by
 exact SK 9999 t d p ht w
theorem aIp {x:Operand} {t tf:TypeId} {fs:Array Field} {k st g j off m:Nat} (hu:P.underlying t=some (.struct fs)) (hf:(fs[k]?).map (λf=>(f.offset,f.type))=some (off,tf)) (ff:(P.info? tf).map (·.size)=some st) (Hv:Nat.blt 0 st=true) (hx:ev L x=some (.pointer (some ⟨g,j,none⟩))) (hm:j+off=m):
  Yl P n B w0 (.fieldAddr t x k) ty L R (.pointer (some ⟨g,m,none⟩)):=by
 obtain⟨f,hf',he⟩:=iy.1 hf;simp only[zz] at he;obtain⟨rfl,rfl⟩:=he;have:=UU (P:=P) (n:=n) (B:=B) (w0:=w0) (R:=R) (ty:=ty) hu hf' ff Hv hx
 have e:(⟨g,j,none⟩:Addr).add f.offset=⟨g,m,none⟩:=by
  rw[<-hm];unfold Addr.add;split<;>simp_all
 rwa[e] at this
theorem OA {x ix:Operand} {t e:TypeId} {k:IntKind} {g m N:Nat} {i:Int} {r:Row} (q:Nat) (hq:R[q]? =some r) (hA:r.A=some ⟨g,0,none⟩) (ht:P.underlying t=some (.array N e)) (hi:(P.info? e).map (·.size)=some 1) (hx:ev L x=some (.pointer (some ⟨g,m,none⟩))) (uv:ev L ix=some (.int k i)) (bo:m<r.xs.length) (h0:0<=i) (h1:i<N):
  Yl P n B w0 (.indexAddr t x ix) ty L R (.pointer (some ⟨g,m+i.toNat,none⟩)):=by
 have Ms:(some ⟨g,m,none⟩:AF)=pat (some ⟨g,0,none⟩) m:=by
  simp only[pat,jy,CV]
 have:=IJ (P:=P) (n:=n) (B:=B) (w0:=w0) (ty:=ty) ht hi hx Ms uv (hA▸rdR q hq) bo h0 h1;rw[qg] at this;simpa only[pat,jy,CV] using this
theorem bCy {x:Operand} {t:TypeId} {d:TypeDesc} {g j:Nat} {v:Value} {r:Row} (q:Nat) (hq:R[q]? =some r) (hA:r.A=some ⟨g,0,none⟩) (hu:P.underlying t=some d) (hd:NC d=false) (hx:ev L x=some (.pointer (some ⟨g,j,none⟩))) (hv:r.xs[j]? =some v):
  Yl P n B w0 (.load t x) ty L R v:=by
 have Ms:(some ⟨g,j,none⟩:AF)=pat (some ⟨g,0,none⟩) j:=by
  simp only[pat,jy,CV]
 exact pI hu hd hx Ms (hA▸rdR q hq) hv
theorem aZ {x y:Operand} {t:TypeId} {j:Nat} {r:Row} {v:Value} {g:Nat} (q:Nat) (hq:R[q]? =some r) (mt:r.ro=false) (hA:r.A=some ⟨g,0,none⟩) (ff:(P.info? t).map (·.size)=some 1) (hx:ev L x=some (.pointer (some ⟨g,j,none⟩))) (hy:ev L y=some v) (hv:v.cells.toList=[v]) (h1:v.oneCell'=true) (hj:j<r.xs.length):
  Ac P n B w0 (.store t x y) ty L R (λ_ R'=>R'=R.set q {r with xs:=r.xs.set j v}):=
 UJ q hq mt hA ff hx (by simp only[pat,hA,jy,CV]) hy hv h1 hj
theorem aOd {t:TypeId} {v:Value} (h: ∀w,(Instr.build t #[]).run P w= .ok v w):Yl P n B w0 (.build t #[]) ty L R v:=by
 intro a w o ho _ hs _;simp[execOp,ho,h]
theorem KJ {r0 r1:Row}: ∀ {R:List Row} {i:Nat},R[i]? =some r0->(r1::R.eraseIdx i).Perm (R.set i r1)
 |[],i,h=>by simp at h
 |q::R,0,_=> .refl _
 |q::R,i+1,h=>by
  have ih:(r1::R.eraseIdx i).Perm (R.set i r1):=KJ (by simpa using h);exact(List.Perm.swap q r1 _).trans (ih.cons q)
theorem Ct.at {f:FuncId} {args:Array Value} {r0 r1:Row} {V:Value} (i:Nat) (hi:R[i]? =some r0) (h:Ct P f args B w0 (r0::R.eraseIdx i) (λv R'=>v=V/\R'=r1::R.eraseIdx i)):Ct P f args B w0 R (λv R'=>v=V/\R'=R.set i r1):=by
 intro w hw
 have Oi:Hp B w0 w (r0::R.eraseIdx i):=by
  have hp:=KJ (r1:=r0) hi;have bo:i<R.length:=(gm.1 hi).1
  have e:R.set i r0=R:=by
   rw[<-(gm.1 hi).2];exact List.set_getElem_self bo
  rw[e] at hp;exact hw.perm hp.symm
 refine(h w Oi).mono ?_;rintro e w' ⟨v,R',rfl,hh,rfl,rfl⟩;exact⟨_,_,rfl,hh.perm (KJ hi),rfl,rfl⟩
theorem kI {x y:Operand} {t u d:TypeId} {p:AF} (ht:P.underlying t=some (.pointer d)) (hx:ev L x=some (.pointer p)) (hy:ev L y=some (.pointer none)):Yl P n B w0 (.binOp .eql t x y u) ty L R (.bool p.isNone):=by
 intro a w o ho _ hs _;simp[execOp,ho,binOp,eqGuard,hs.ev hx,hs.ev hy,JK t d p ht]
theorem aWj {x y:Operand} {t u d:TypeId} {p:AF} (ht:P.underlying t=some (.pointer d)) (hx:ev L x=some (.pointer p)) (hy:ev L y=some (.pointer none)):Yl P n B w0 (.binOp .neq t x y u) ty L R (.bool (!p.isNone)):=by
 intro a w o ho _ hs _;simp[execOp,ho,binOp,eqGuard,hs.ev hx,hs.ev hy,JK t d p ht]
end
end Go.Eng
namespace Go.Eng
open Go Go.RowKit
def rdl (ls:AD) (i:Int):AH:=ls.getD i.toNat []
theorem aQl {ls:AD} {i:Int} (h0:0<=i) (h:i<ls.length):ls.drop i.toNat=rdl ls i::ls.drop (i+1).toNat:=by
 have hl:i.toNat<ls.length:=G
 have e:(i+1).toNat=i.toNat+1:=G
 rw[e,kz hl];simp[rdl,af,av hl]
theorem aXv {ls:AD} {i:Int} (h0:0<=i) (h:i<ls.length):rdl ls i∈ls:=by
 have hl:i.toNat<ls.length:=G
 simp[rdl,af,av hl]
def SlW (k:IntKind) (w:World) (vals:AG) (ls:AD):Prop:=vals.length=ls.length/\ ∀j:Nat,j<ls.length-> ∃(A:AF) (c:Nat),vals[j]? =some (Value.slice A (ls.getD j []).length c)/\Rd w A (ls.getD j []).length c 1 (ints k (ls.getD j []))/\(∀x∈ls.getD j [],(Lit.int k x).wf=true)/\(ls.getD j []).length<=140737488355327
theorem SlW.at {k:IntKind} {w:World} {vals:AG} {ls:AD} (h:SlW k w vals ls) {i:Int} (h0:0<=i) (h1:i<ls.length): ∃(A:AF) (c:Nat),vals[i.toNat]? =some (Value.slice A (rdl ls i).length c)/\Rd w A (rdl ls i).length c 1 (ints k (rdl ls i))/\(∀x∈rdl ls i,(Lit.int k x).wf=true)/\(rdl ls i).length<=140737488355327:=
 h.2 i.toNat G
theorem SlW.c {k:IntKind} {w w':World} {R:List Row} {vals:AG} {ls:AD} (h:SlW k w vals ls) (hw:Hp w.heap.size w w' R):SlW k w' vals ls:=
 ⟨h.1,λj hj=>by
  obtain⟨A,c,h1,h2,h3⟩:=h.2 j hj
  exact⟨A,c,h1,h2.below hw.below,h3⟩⟩
theorem eB (k:IntKind) (w:World):SlW k w [] []:=⟨rfl,λj hj=>by simp at hj⟩
theorem uX {H:Type} {P:Program} {t:TypeId}: ∀ {ds:List (DataW H)} {d:DataW H},d∈ds-> ∀n∈d.weights P t,n∈DataW.weightsAll P t ds
 |[],_,h,_,_=>by cases h
 |d'::ds,d,hd,n,hn=>by
  simp only[DataW.weightsAll,fo];rcases iw.1 hd with rfl|h
  ·exact .inl hn
  ·exact .inr (uX h n hn)
theorem aJn {H:Type} {P:Program} {ts:List TypeId} {ds:List (DataW H)} (h:(DataW.weightsEach P ts ds).all (· <=reachBytes)=true) {j:Nat} {t e q:TypeId} {k:IntKind} {len:Nat} {A:Nat->AF} {L:Nat->Nat} {Z:Nat->AH} {spare:List (DataW H)}
  (ht:ts[j]? =some t) (hd:ds[j]? =some (.slice ((List.range len).map λr=>Go.Deep.intRow k (A r) (L r) (Z r)) spare)) (hu:P.underlying t=some (.slice e)) (Og:P.underlying e=some (.slice q)) (hb:Nat.ble 1 (P.bytesOf q)=true) {r:Nat} (hr:r<len) (hL:L r<=(Z r).length) (hn:A r=none->(Z r).length=0):L r<=140737488355327:=by
 cases hA:A r with
 |none=>have:=hn hA;omega
 | some a=>
  have hm:(DataW.slice (Go.ChangeShapes.lits k ((Z r).take (L r))) (Go.ChangeShapes.lits k ((Z r).drop (L r))):DataW H)∈(List.range len).map λr=>Go.Deep.intRow k (A r) (L r) (Z r):=by
   refine gz.2 ⟨r,jm.2 hr,?_⟩;simp[Go.Deep.intRow,hA]
  have hw:=yu (vw.1 h _ (DataW.weights_mem_each ht hd (((Go.ChangeShapes.lits k ((Z r).take (L r)):List (DataW H)).length+(Go.ChangeShapes.lits k ((Z r).drop (L r)):List (DataW H)).length)*P.bytesOf q) (by
   simp only[DataW.weights,hu,iw,fo]
   exact Or.inr (Or.inl (uX hm _ (by simp[DataW.weights,Og]))))))
  have j7:=ak hb;have Ui:=reachBytes_lt
  have hl:(Go.ChangeShapes.lits k ((Z r).take (L r)):List (DataW H)).length=L r:=by
   simp[Go.ChangeShapes.lits];omega
  rw[hl] at hw;have:L r*1<=(L r+(Go.ChangeShapes.lits k ((Z r).drop (L r)):List (DataW H)).length)*P.bytesOf q:=Dx G j7;omega
theorem aPf {k:IntKind} {W:World} {a:Addr} {base len cap:Nat} {A:Nat->AF} {L C:Nat->Nat} {Z:Nat->AH} (hl:len<=cap) (hm:cap<=maxLen)
  (h: ∀r,r<cap->W.cell? (a.add r)=some (.slice (A r) (L r) (C r))/\L r<=C r/\C r<=maxLen/\(Z r).length=C r/\(∀n∈Z r,(Lit.int k n).wf=true)/\(A r=none->C r=0)/\ ∀a',A r=some a'->base<=a'.block/\ ∀c,c<C r->W.cell? (a'.add c)=some (.int k ((Z r).getD c 0))) (hs: ∀r,r<len->L r<=140737488355327):
  ∃(vals:AG) (ls:AD),len=ls.length/\Rd W (some a) ls.length cap 1 vals/\SlW k W vals ls:=by
 unfold maxLen at hm;refine⟨(List.range len).map λr=> .slice (A r) (L r) (C r),(List.range len).map λr=>(Z r).take (L r),cD,⟨cD,cG,by simpa using hl,λj v hv=>⟨a,rfl,?_⟩⟩,cD,λj hj=> ?_⟩
 ·rw [kv] at hv;obtain⟨r,hr,rfl⟩:=iy.1 hv;obtain⟨bo,he⟩:=gm.1 hr;rw[zf] at he;subst he;rw[yo] at bo;exact(h j G).1
 ·simp only[az,yo] at hj;obtain⟨h1,h2,h3,h4,h5,h6,h7⟩:=h j G
  have e:((List.range len).map λr=>(Z r).take (L r)).getD j []=(Z j).take (L j):=by
   simp[af,yz hj]
  have el:((Z j).take (L j)).length=L j:=by rw[ax];omega
  rw[e,el];unfold maxLen at h3;refine⟨A j,C j,?_,⟨by rw[bO,el];omega,G,h2,λq v hq=> ?_⟩,λx hx=>h5 x (ll hx),hs j hj⟩
  ·rw [kv,yz hj];rfl
  ·have i8:q<L j:=by
    rcases gu q (L j) with h|h
    ·exact h
    ·rw[lm (by rw[bO,el];omega)] at hq;cases hq
   cases hA:A j with
   |none=>have:=h6 hA;omega
   |some a'=>
    refine⟨a',rfl,?_⟩;rw[(h7 a' hA).2 q G];have hqz:q<(Z j).length:=G
    simp[ints,i8,av hqz] at hq;subst hq;simp[af,av hqz]
section
variable {P:Program} {n:Nd} {B:Nat} {w0:World} {L:Env} {R:List Row} {ty:TypeId}
theorem dO {x y:Operand} {t e sz:Nat} {v:Value} {xs vs:AG} {g:Nat} (i:Nat) (hi:R[i]? =some ⟨e,sz,some ⟨g,0,none⟩,1,1,xs,false⟩) (ff:(P.info? t).map (·.size)=some sz) (hx:ev L x=some (.pointer (some ⟨g,0,none⟩))) (hy:ev L y=some v) (hv:v.cells.toList=vs) (h1: ∀v∈vs,v.oneCell'=true) (hl:vs.length=sz):
  Ac P n B w0 (.store t x y) ty L R (λ_ R'=>R'=R.set i ⟨e,sz,some ⟨g,0,none⟩,1,1,vs,false⟩):=by
 intro a w o K Q ho Iv hs hp hk
 have My:xs.length=sz:=by
  have:=(Row.rd (hp.own _ (gq hi))).len;simpa using this
 have:=ND (P:=P) (n:=n) (B:=B) (w0:=w0) (ty:=ty) (j:=0) i hi rfl rfl (vs:=vs) (by rw[ff,hl]) hx (by simp[pat,Addr.add]) hy hv h1 (by simp only;omega);simp only[zg,ig,mg,hl,<-My,Je,ji] at this;rw[My] at this;exact this a w o K Q ho Iv hs hp hk
theorem aOc {x y:Operand} {t u:TypeId} {p q:Value} {b:Bool} (h: ∀w,(binOp .eql t p q).run P w= .ok (.bool b) w) (hg: ∀w,(eqGuard .eql t x y p q).run P w= .ok () w) (hx:ev L x=some p) (hy:ev L y=some q):Yl P n B w0 (.binOp .eql t x y u) ty L R (.bool b):=by
 intro a w o ho _ hs _;simp[execOp,ho,hs.ev hx,hs.ev hy,h,hg]
end
def prs (l:AE):AG:=l.flatMap λp=>[.int .i64 p.1, .int .i64 p.2]
def rdp (l:AE) (i:Int):Int × Int:=l.getD i.toNat (0,0)
theorem nQ: ∀l:AE,(prs l).length=l.length*2
 |[]=>rfl
 |p::l=>by
  have:=nQ l;unfold prs at*;rw[zq,ai,this];simp;omega
theorem aCb (l m:AE):prs (l++m)=prs l++prs m:=by simp[prs]
theorem WQ: ∀(l:AE) (i:Nat),(prs l).drop (i*2)=prs (l.drop i)
 |l,0=>cD
 |[],i+1=>by simp[prs]
 |p::l,i+1=>by
  have:=WQ l i;have e:(i+1)*2=i*2+1+1:=G
  rw[e];show((Value.int .i64 p.1::Value.int .i64 p.2::prs l).drop (i*2+1+1))=_;rw[List.drop_succ_cons,List.drop_succ_cons,this];rfl
theorem aQk {l:AE} {i:Int} (h0:0<=i) (h:i<l.length):l.drop i.toNat=rdp l i::l.drop (i+1).toNat:=by
 have hl:i.toNat<l.length:=G
 have e:(i+1).toNat=i.toNat+1:=G
 rw[e,kz hl];simp[rdp,af,av hl]
theorem bDv {l:AE} {i:Int} (h0:0<=i) (h:i<l.length):((prs l).drop (i.toNat*2)).take 2=[.int .i64 (rdp l i).1, .int .i64 (rdp l i).2]:=by
 rw[WQ,aQk h0 h];rfl
theorem aYd (l:AE): ∀v∈prs l,v.oneCell'=true:=by
 intro v hv;unfold prs at hv;obtain⟨p,_,hp⟩:=Ae.1 hv;simp at hp;rcases hp with rfl|rfl<;>rfl
section
variable {P:Program} {n:Nd} {B:Nat} {w0:World} {L:Env} {R:List Row} {ty:TypeId}
theorem aFa {x:Operand} {t:TypeId} {d:TypeDesc} {A:AF} {m c:Nat} {l:AE} {i:Int} (hu:P.underlying t=some d) (hd:NC d=true) (ff:(P.info? t).map (·.size)=some 2) (hx:ev L x=some (.pointer (pat A (i.toNat*2)))) (hr:RdC B w0 R A m c 2 (prs l)) (h0:0<=i:=by omega) (h1:i<l.length:=by omega):
  Yl P n B w0 (.load t x) ty L R (.agg #[.int .i64 (rdp l i).1, .int .i64 (rdp l i).2]):=by
 have:=aOb (P:=P) (n:=n) (B:=B) (w0:=w0) (R:=R) (ty:=ty) hu hd ff hx rfl hr (by rw[nQ];omega) G;rwa[bDv h0 h1] at this
theorem RN {s x:Operand} {t e:TypeId} {z:Value} {bytes m p c c2:Nat} {A A2:AF} {l news:AE} (i:Nat) (hi:R[i]? =some ⟨e,2,A,p,c,prs l,false⟩) (ht:P.underlying t=some (.slice e)) (dq:(P.info? e).map (λi=>(i.zero,i.size,i.bytes))=some (some z,2,bytes)) (hz:z.cells.size=2) (vu:Nat.blt 0 bytes=true)
  (hs:ev L s=some (.slice A p c)) (hx:ev L x=some (.slice A2 m c2)) (jp:RdC B w0 R A2 m c2 2 (prs news)) (iz:(p+m)*bytes<=140737488355328):
  Ac P n B w0 (.call {callee:= .builtin .append,args:= #[s,x],argTypes:= #[t,t]}) ty L R (λv R'=> ∃A' c',v= .slice A' (p+m) c'/\R'=R.set i ⟨e,2,A',p+m,c',prs (l++news),false⟩):=by
 have:=eY (P:=P) (n:=n) (B:=B) (w0:=w0) (ty:=ty) i hi rfl ht dq hz rfl vu hs hx jp (aYd news) iz;simp only[<-aCb] at this;exact this
theorem bFs {t e:TypeId} {x:Operand} {a b:Int} (ht:P.underlying t=some (.slice e)) (dq:(P.info? e).map (λi=>(i.zero,i.size))=some (some (.agg #[.int .i64 0, .int .i64 0]),2)) (hx:ev L x=some (.agg #[.int .i64 a, .int .i64 b])):
  Ac P n B w0 (.buildSlice t 1 #[(0,x)]) ty L R (λv R'=> ∃g,v= .slice (some ⟨g,0,none⟩) 1 1/\R'=⟨e,2,some ⟨g,0,none⟩,1,1,prs [(a,b)],false⟩::R):=by
 have hv:evp L [(0,x)]=some [(0, .agg #[.int .i64 a, .int .i64 b])]:=by simp[evp,hx]
 exact pU (P:=P) (n:=n) (B:=B) (w0:=w0) (L:=L) (R:=R) (ty:=ty) (len:=1) (ps:=[(0,x)]) (cells:= #[.int .i64 a, .int .i64 b]) ht dq hv cC cC cA (by rfl)
theorem aQu {w:World} {m c:Nat} {l:AE} (h:Rd w none m c 2 (prs l)):l=[]:=by
 cases l with
 |nil=>rfl
 |cons p l=>
  obtain⟨a,ha,_⟩:=h.at_ 0 (.int .i64 p.1) rfl;cases ha
theorem Hp.nilP {w:World} (h:Hp B w0 w R) (e:TypeId):Hp B w0 w (⟨e,2,none,0,0,prs [],false⟩::R):=h.nil e 2
theorem fC {x:Operand} {t:TypeId} {d:TypeDesc} {g j m c sz:Nat} {xs:AG} {v:Value} (hr:RdC B w0 R (some ⟨g,0,none⟩) m c sz xs) (hu:P.underlying t=some d) (hd:NC d=false) (hx:ev L x=some (.pointer (some ⟨g,j,none⟩))) (hv:xs[j]? =some v):Yl P n B w0 (.load t x) ty L R v:=
 pI hu hd hx (by simp only[pat,jy,CV]) hr hv
theorem bM {x:Operand} {t:TypeId} {d:TypeDesc} {g j st m c sz:Nat} {xs vs:AG} (hr:RdC B w0 R (some ⟨g,0,none⟩) m c sz xs) (hu:P.underlying t=some d) (hd:NC d=true) (ff:(P.info? t).map (·.size)=some st) (hx:ev L x=some (.pointer (some ⟨g,j,none⟩))) (hv:(xs.drop j).take st=vs) (hj:j+st<=xs.length) (Hv:Nat.blt 0 st=true):Yl P n B w0 (.load t x) ty L R (.agg vs.toArray):=by
 have:=aOb (P:=P) (n:=n) (B:=B) (w0:=w0) (ty:=ty) hu hd ff hx (by simp only[pat,jy,CV]) hr hj (ak Hv);rwa[hv] at this
theorem dE {x ix:Operand} {t e:TypeId} {k:IntKind} {g j q N m c sz:Nat} {i:Int} {xs:AG} (hr:RdC B w0 R (some ⟨g,0,none⟩) m c sz xs) (ht:P.underlying t=some (.array N e)) (hi:(P.info? e).map (·.size)=some 1) (hx:ev L x=some (.pointer (some ⟨g,j,none⟩))) (uv:ev L ix=some (.int k i)) (bo:j<xs.length) (h0:0<=i) (h1:i<N) (hq:j+i.toNat=q):
  Yl P n B w0 (.indexAddr t x ix) ty L R (.pointer (some ⟨g,q,none⟩)):=by
 subst hq
 have Ms:(some ⟨g,j,none⟩:AF)=pat (some ⟨g,0,none⟩) j:=by
  simp only[pat,jy,CV]
 have:=IJ (P:=P) (n:=n) (B:=B) (w0:=w0) (ty:=ty) ht hi hx Ms uv hr bo h0 h1;rw[qg] at this;simpa only[pat,jy,CV] using this
theorem gV {t:TypeId} {ps:List (Nat × Operand)} {vs:List (Nat × Value)} {v:Value} (hv:evp L ps=some vs) (h: ∀w,(Instr.build t vs.toArray).run P w= .ok v w):Yl P n B w0 (.build t ps.toArray) ty L R v:=by
 intro a w o ho _ hs _;have Fl:=hs.evp hv;simp[execOp,ho,Fl,h]
theorem WF (k:Nat) (t e:TypeId) (A:AF) (m c:Nat) (ht:P.underlying t=some (.slice e)) (w:World):(Op.equalIn (k+1) t (.slice A m c) (.slice none 0 0)).run P w= .ok A.isNone w:=by
 cases A<;>simp[Op.equalIn,mo ht]
theorem aJu (t e:TypeId) (A:AF) (m c:Nat) (ht:P.underlying t=some (.slice e)) (w:World):(Op.equal t (.slice A m c) (.slice none 0 0)).run P w= .ok A.isNone w:=WF 9999 t e A m c ht w
theorem aEy {x y:Operand} {t u e:TypeId} {A:AF} {m c:Nat} (ht:P.underlying t=some (.slice e)) (hx:ev L x=some (.slice A m c)) (hy:ev L y=some (.slice none 0 0)):Yl P n B w0 (.binOp .eql t x y u) ty L R (.bool A.isNone):=by
 intro a w o ho _ hs _;simp[execOp,ho,binOp,eqGuard,hs.ev hx,hs.ev hy,aJu t e A m c ht]
theorem bAw {t e:TypeId} (ht:P.underlying t=some (.slice e)) (dq:(P.info? e).map (λi=>(i.zero,i.size))=some (some (.agg #[.int .i64 0, .int .i64 0]),2)):
  Ac P n B w0 (.buildSlice t 0 #[]) ty L R (λv R'=> ∃g,v= .slice (some ⟨g,0,none⟩) 0 0/\R'=⟨e,2,some ⟨g,0,none⟩,0,0,prs [],false⟩::R):=
 pU (P:=P) (n:=n) (B:=B) (w0:=w0) (L:=L) (R:=R) (ty:=ty) (len:=0) (ps:=[]) (vs:=[]) (cells:= #[]) ht dq rfl cC cC cA (by rfl)
theorem Hp.selR {w:World} {F F':List Row} (h:Hp B w0 w (F++R)) (is:List Nat) (hn:is.Nodup) (hR:is.map (λi=>F[i]?)=F'.map some):Hp B w0 w (F'++R):=by
 have hp:=ow.1 h.apart;have hF:Hp B w0 w F:=⟨h.below,h.base,λr hr=>h.own r (fo.2 (.inl hr)),hp.1,h.late⟩;have Vw:=hF.sel is hn hR
 have mem: ∀q∈F',q∈F:=by
  intro q hq;have h1:some q∈F'.map some:=gz.2 ⟨q,hq,rfl⟩;rw[<-hR] at h1;obtain⟨i,_,hi⟩:=gz.1 h1;exact gq hi
 refine⟨h.below,h.base,λr hr=> ?_,ow.2 ⟨Vw.apart,hp.2.1,λq hq r hr=>hp.2.2 q (mem q hq) r hr⟩,h.late⟩;rcases fo.1 hr with h1|h1
 ·exact h.own r (fo.2 (.inl (mem r h1)))
 ·exact h.own r (fo.2 (.inr h1))
end
end Go.Eng
namespace Go.Eng
open Go Go.RowKit
section
variable {P:Program} {n:Nd} {B:Nat} {w0:World} {L:Env} {R:List Row} {ty:TypeId}
theorem yF {x:Operand} {t tf:TypeId} {fs:Array Field} {k st g j:Nat} (off m:Nat) (hu:P.underlying t=some (.struct fs)) (ff:(P.info? tf).map (·.size)=some st) (hx:ev L x=some (.pointer (some ⟨g,j,none⟩))) (hf:(fs[k]?).map (λf=>(f.offset,f.type))=some (off,tf):=by exact rfl) (Hv:Nat.blt 0 st=true:=by exact rfl) (hm:j+off=m:=by exact rfl):Yl P n B w0 (.fieldAddr t x k) ty L R (.pointer (some ⟨g,m,none⟩)):=aIp hu hf ff Hv hx hm
theorem yL {x:Operand} {t e:TypeId} {d:TypeDesc} {g j m c sz:Nat} {xs:AG} {v:Value} {ro:Bool} (i:Nat) (hu:P.underlying t=some d) (hx:ev L x=some (.pointer (some ⟨g,j,none⟩))) (hi:R[i]? =some ⟨e,sz,some ⟨g,0,none⟩,m,c,xs,ro⟩) (hv:xs[j]? =some v) (hd:NC d=false:=by exact rfl):Yl P n B w0 (.load t x) ty L R v:=fC (rdr i hi) hu hd hx hv
end
end Go.Eng
namespace Go.Eng
open Go Go.RowKit Go.Proofs Go.Sort
theorem aGd: ∀(l:AE) (t:Nat),t<l.length*2->(prs l)[t]? =some (if t%2=0 then .int .i64 (l.getD (t/2) (0,0)).1 else .int .i64 (l.getD (t/2) (0,0)).2)
 |[],t,h=>by simp at h
 |p::l,0,_=>rfl
 |p::l,1,_=>rfl
 |p::l,t+2,h=>by
  have ih:=aGd l t (by simp only[dm] at h;omega);have e1:(t+2)%2=t%2:=G
  have e2:(t+2)/2=t/2+1:=G
  rw[e1,e2];show(Value.int .i64 p.1::Value.int .i64 p.2::prs l)[t+2]? =_;rw[Dh,Dh,ih];rfl
def encP {l:AE} (x: {p:Int × Int//p∈l}):AG:=[.int .i64 x.1.1, .int .i64 x.1.2]
theorem QH {l:AE} [Inhabited {p:Int × Int//p∈l}] (d:Array {p:Int × Int//p∈l}):(flatK encP 2 d).toList=prs (d.toList.map Subtype.val):=by
 apply uj;intro t;have hs:(flatK encP 2 d).size=d.size*2:=size_flatK _ _ _;by_cases h:t<d.size*2
 ·rw [aGd _ t (by simpa using h),qd];have h2:t/2<d.size:=G
  have hg:(flatK encP 2 d)[t]? =some ((flatK encP 2 d)[t]!):=by
   rw[nk (by rw[hs];exact h),qp _ t (by rw[hs];exact h)]
  rw[hg,get_flatK encP 2 d t h];have e:d[t/2]! =d[t/2]:=qp d _ h2
  have e3:(d.toList.map Subtype.val).getD (t/2) (0,0)=d[t/2].1:=by
   simp[af,h2]
  rw[e,e3];rcases Nat.mod_two_eq_zero_or_one t with hm|hm
  ·rw[hm];rfl
  ·rw[hm];rfl
 ·rw[lm (by rw[jr,hs];omega),lm (by rw[nQ];simp;omega)]
end Go.Eng
namespace Go.Pure
open Go Go.Eng
def orL:AH->Int
 |[]=>0
 |a::l=>if a≠0 then a else orL l
theorem bEa {l:AH} {k:Int} (h0:0<=k) (h:k<l.length) (hz:rd l k=0):orL (l.drop k.toNat)=orL (l.drop (k+1).toNat):=by
 rw[eP h0 h,orL,df G]
theorem aYi {l:AH} {k:Int} (h0:0<=k) (h:k<l.length) (hz:rd l k≠0):orL (l.drop k.toNat)=rd l k:=by
 rw[eP h0 h,orL,di hz]
def ahd (ws:AD) (bs rs:AH) (t:Int × Int) (h:Int):Int:=rd rs (rd bs t.1+(t.2+h)%((rdl ws t.1).length:Int))
def aBa (ws:AD) (bs rs:AH) (h:Int) (t u:Int × Int):Int:=
 orL [kG (ahd ws bs rs t 0) (ahd ws bs rs u 0),kG (ahd ws bs rs t h) (ahd ws bs rs u h),kG t.1 u.1,kG t.2 u.2]
def TOk (ws:AD) (bs:AH) (N:Nat) (t:Int × Int):Prop:=(0<=t.1/\t.1<ws.length/\t.1<bs.length)/\(0<=t.2/\t.2<(rdl ws t.1).length/\t.2<=1000000)/\0<(rdl ws t.1).length/\(0<=rd bs t.1/\rd bs t.1+(rdl ws t.1).length<=N)
def iG (bs:AH) (t:Int × Int):Int:=rd bs t.1+t.2
def FI (ws:AD) (bs rs:AH) (h:Int) (t u:Int × Int):Prop:=ahd ws bs rs t 0≠ahd ws bs rs u 0\/ahd ws bs rs t h≠ahd ws bs rs u h
instance (ws:AD) (bs rs:AH) (h:Int) (t u:Int × Int):Decidable (FI ws bs rs h t u):=by unfold FI;infer_instance
def iK (ws:AD) (bs rs:AH) (h:Int) (l:AE):Nat->Int
 |0=>0
 |i+1=>iK ws bs rs h l i+if FI ws bs rs h (rdp l i) (rdp l (i+1:Nat)) then 1 else 0
theorem xQ {ws:AD} {bs rs:AH} {h:Int} {l:AE} {i:Int} (hi:0<i):iK ws bs rs h l i.toNat=iK ws bs rs h l (i-1).toNat+if FI ws bs rs h (rdp l (i-1)) (rdp l i) then 1 else 0:=by
 obtain⟨k,rfl⟩: ∃k:Nat,i=(k:Int)+1:=⟨(i-1).toNat,G⟩;have e1:((k:Int)+1).toNat=k+1:=G
 have e2:((k:Int)+1-1)=k:=G
 rw[e1,e2,bq];rfl
theorem eT {l:AH} {i v:Int} (h0:0<=i) (h:i<l.length):rd (upd l i v) i=v:=by
 unfold rd upd;have hl:i.toNat<l.length:=G
 simp[af,hl]
theorem fE {l:AH} {i j v:Int} (h0:0<=i) (hj:0<=j) (cg:i≠j):rd (upd l i v) j=rd l j:=by
 unfold rd upd;have:i.toNat≠j.toNat:=G
 simp[af,this]
theorem kP {l:AE} {i:Int} (h0:0<=i) (h:i<l.length):rdp l i∈l:=by
 have hl:i.toNat<l.length:=G
 simp[rdp,af,av hl]
theorem aXu {l:AE} (hd:l.Nodup) {i j:Int} (h0:0<=i) (h:i<l.length) (g0:0<=j) (g:j<l.length) (e:rdp l i=rdp l j):i=j:=by
 have hi:i.toNat<l.length:=G
 have hj:j.toNat<l.length:=G
 simp only[rdp,af,av hi,av hj,oh] at e;rcases je i j with bo|bo|bo
 ·exact absurd e (dz.1 hd i.toNat j.toNat hi hj G)
 ·exact bo
 ·exact absurd e.symm (dz.1 hd j.toNat i.toNat hj hi G)
theorem yQ {bs rk:AH} {l:AE} {f:Nat->Int} {i n:Int} (hnd:l.Nodup) (Pm: ∀t∈l,∀u∈l,iG bs t=iG bs u->t=u) (h0:0<=i) (hi:i<l.length) (dy: ∀t∈l,0<=iG bs t) (bo:iG bs (rdp l i)<rk.length)
  (l4: ∀j:Nat,j<i->rd rk (iG bs (rdp l j))=f j) (hn:n=f i.toNat): ∀j:Nat,(j:Int)<i+1->rd (upd rk (rd bs (rdp l i).1+(rdp l i).2) n) (iG bs (rdp l j))=f j:=by
 intro j hj;have Rj:=dy _ (kP h0 hi);by_cases o9:(j:Int)=i
 ·subst o9;rw[bq] at hn;rw[<-hn];exact eT Rj bo
 ·have Mr:=dy _ (kP (show(0:Int)<=j by omega) (show(j:Int)<l.length by omega));have cg:iG bs (rdp l i)≠iG bs (rdp l j):=λe=>o9 (aXu hnd G G h0 hi (Pm _ (kP h0 hi) _ (kP G G) e).symm);have e:=fE (l:=rk) (v:=n) Rj Mr cg;rw[<-l4 j G];exact e
theorem CG {a b:Int}:kG a b<0↔a<b:=by unfold kG;split<;>(try split)<;>omega
theorem zQ (ws:AD) (bs rs:AH) (h:Int) (t u:Int × Int):aBa ws bs rs h t u<0↔
  (ahd ws bs rs t 0<ahd ws bs rs u 0\/ahd ws bs rs t 0=ahd ws bs rs u 0/\(ahd ws bs rs t h<ahd ws bs rs u h\/ahd ws bs rs t h=ahd ws bs rs u h/\(t.1<u.1\/t.1=u.1/\t.2<u.2))):=by
 unfold aBa;simp only[orL];generalize ahd ws bs rs t 0=a;generalize ahd ws bs rs u 0=b;generalize ahd ws bs rs t h=c;generalize ahd ws bs rs u h=d;by_cases h1:a=b
 ·have e1:kG a b=0:=kT.2 h1;by_cases h2:c=d
  ·have e2:kG c d=0:=kT.2 h2;by_cases h3:t.1=u.1
   ·have e3:kG t.1 u.1=0:=kT.2 h3;by_cases h4:t.2=u.2
    ·have e4:kG t.2 u.2=0:=kT.2 h4;simp[e1,e2,e3,e4];omega
    ·have e4:kG t.2 u.2≠0:=λe=>h4 (kT.1 e);simp only[e1,e2,e3,ne_eq,not_true,El,xg,Jw,e4,CG];omega
   ·have e3:kG t.1 u.1≠0:=λe=>h3 (kT.1 e);simp only[e1,e2,ne_eq,not_true,El,xg,Jw,e3,CG];omega
  ·have e2:kG c d≠0:=λe=>h2 (kT.1 e);simp only[e1,ne_eq,not_true,El,xg,Jw,e2,CG];omega
 ·have e1:kG a b≠0:=λe=>h1 (kT.1 e);simp only[ne_eq,e1,El,Jw,CG];omega
theorem aOv (ws:AD) (bs rs:AH) (h:Int):Go.Sort.SWO (Go.Proofs.ltOf (aBa ws bs rs h)):=by
 refine⟨λx=> ?_,λx y z h1 h2=> ?_,λx y z h1 h2=> ?_⟩
 ·simp only[Go.Proofs.ltOf,uk,zQ];omega
 ·simp only[Go.Proofs.ltOf,zw,zQ] at*;omega
 ·simp only[Go.Proofs.ltOf,uk,zQ] at*;omega
end Go.Pure
namespace Go.Pure
open Go Go.Eng
def nT (ws:AD) (k:Nat):Nat:=((ws.take k).flatten).length
def rT (ws:AD) (k:Nat):AH:=(List.range k).map λi=>(nT ws i:Int)
def turnsOf (w:Int) (j:Nat):AE:=(List.range j).map λi:Nat=>(w,(i:Int))
def iD (ws:AD):Nat->AE
 |0=>[]
 |k+1=>iD ws k++turnsOf k (rdl ws k).length
theorem SE (w:Int) {j:Int} (h:0<=j):turnsOf w (j+1).toNat=turnsOf w j.toNat++[(w,j)]:=by
 obtain⟨j,rfl⟩: ∃m:Nat,j=m:=⟨j.toNat,G⟩;rw[show((j:Int)+1).toNat=j+1 by omega,bq];unfold turnsOf;rw[zk,jc];rfl
theorem VF (w:Int) (j:Nat):(turnsOf w j).length=j:=by simp[turnsOf]
theorem gJ {ws:AD} {k:Int} (h0:0<=k) (h:k<ws.length):(ws.take (k+1).toNat).flatten=(ws.take k.toNat).flatten++rdl ws k:=by
 rw[show ws.take (k+1).toNat=ws.take k.toNat++[rdl ws k] from ?_]
 ·simp
 ·have hl:k.toNat<ws.length:=G
  rw[show(k+1).toNat=k.toNat+1 by omega,qc,av hl];simp[rdl,af,av hl]
theorem lW {ws:AD} {k:Int} (h0:0<=k) (h:k<ws.length):nT ws (k+1).toNat=nT ws k.toNat+(rdl ws k).length:=by
 unfold nT;rw[gJ h0 h,ai]
theorem aGl (ws:AD) (k:Nat):nT ws k<=ws.flatten.length:=by
 unfold nT;have:=ik k ws
 calc ((ws.take k).flatten).length<=((ws.take k).flatten).length+((ws.drop k).flatten).length:=Bq _ _
  _=((ws.take k++ws.drop k).flatten).length:=by rw[lu,ai]
  _=_:=by rw[this]
theorem aEh {ws:AD} {k:Int} (h0:0<=k):rT ws (k+1).toNat=rT ws k.toNat++[(nT ws k.toNat:Int)]:=by
 rw[show(k+1).toNat=k.toNat+1 by omega];unfold rT;rw[zk,jc];rfl
theorem RG (ws:AD) (k:Nat):(rT ws k).length=k:=by simp[rT]
theorem aAx {ws:AD} {k:Int} (h0:0<=k):iD ws (k+1).toNat=iD ws k.toNat++turnsOf k (rdl ws k).length:=by
 obtain⟨k,rfl⟩: ∃m:Nat,k=m:=⟨k.toNat,G⟩;rw[show((k:Int)+1).toNat=k+1 by omega,bq];rfl
theorem DF (ws:AD): ∀k:Nat,k<=ws.length->(iD ws k).length=nT ws k
 |0,_=>rfl
 |k+1,h=>by
  have ih:=DF ws k G;have:=lW (ws:=ws) (k:=k) G G;rw[show((k:Int)+1).toNat=k+1 by omega,bq] at this;show(iD ws k++turnsOf k (rdl ws k).length).length=_;rw[ai,ih,VF,this]
end Go.Pure
namespace Go.Pure
open Go Go.Eng
variable {H:Nat} {h:Int} {ws:AD} {bs rs:AH}
def tw (ws:AD) (t:Int × Int) (j:Nat):Int:=(rdl ws t.1).getD ((t.2.toNat+j)%(rdl ws t.1).length) 0
def TV (ws:AD) (t:Int × Int):Prop:=0<=t.1/\t.1<ws.length/\0<=t.2/\t.2<(rdl ws t.1).length
def LtH (H:Nat) (U V:Nat->Int):Prop:= ∃k,k<H/\(∀i,i<k->U i=V i)/\U k<V k
def EqH (H:Nat) (U V:Nat->Int):Prop:= ∀i,i<H->U i=V i
theorem EqH.symm {U V:Nat->Int} (h:EqH H U V):EqH H V U:=λi hi=>(h i hi).symm
theorem EqH.trans {U V W:Nat->Int} (h:EqH H U V) (h':EqH H V W):EqH H U W:=λi hi=>(h i hi).trans (h' i hi)
theorem LtH.not_eq {U V:Nat->Int} (h:LtH H U V): ¬EqH H U V:=λe=>by
 obtain⟨k,hk,_,hl⟩:=h;have:=e k hk;omega
theorem LtH.asymm {U V:Nat->Int} (h:LtH H U V): ¬LtH H V U:=by
 obtain⟨k,hk,h1,hl⟩:=h;rintro⟨m,hm,h2,Ra⟩;by_cases a:k<m
 ·have:=h2 k a;omega
 ·by_cases b:m<k
  ·have:=h1 m b;omega
  ·have:k=m:=G
   subst this;omega
theorem LtH.trans {U V W:Nat->Int} (h:LtH H U V) (h':LtH H V W):LtH H U W:=by
 obtain⟨k,hk,h1,hl⟩:=h;obtain⟨m,hm,h2,Ra⟩:=h';by_cases a:k<m
 ·exact⟨k,hk,λi hi=>(h1 i hi).trans (h2 i G),by rw[<-h2 k a];exact hl⟩
 ·by_cases b:m<k
  ·exact⟨m,hm,λi hi=>(h1 i G).trans (h2 i hi),by rw[h1 m b];exact Ra⟩
  ·have:k=m:=G
   subst this;exact⟨k,hk,λi hi=>(h1 i hi).trans (h2 i hi),G⟩
theorem LtH.eq_left {U V W:Nat->Int} (h:EqH H U V) (h':LtH H V W):LtH H U W:=by
 obtain⟨k,hk,h1,hl⟩:=h';exact⟨k,hk,λi hi=>(h i G).trans (h1 i hi),by rw[h k hk];exact hl⟩
theorem LtH.eq_right {U V W:Nat->Int} (h:LtH H U V) (h':EqH H V W):LtH H U W:=by
 obtain⟨k,hk,h1,hl⟩:=h;exact⟨k,hk,λi hi=>(h1 i hi).trans (h' i G),by rw[<-h' k hk];exact hl⟩
theorem tri (H:Nat) (U V:Nat->Int):LtH H U V\/EqH H U V\/LtH H V U:=by
 induction H with
 |zero=>exact .inr (.inl λi hi=>G)
 | succ H ih=>
  rcases ih with⟨k,hk,h⟩|h|⟨k,hk,h⟩
  ·exact .inl ⟨k,G,h⟩
  ·rcases je (U H) (V H) with a|a|a
   ·exact .inl ⟨H,G,h,a⟩
   ·refine .inr (.inl λi hi=> ?_);by_cases e:i=H
    ·rw[e];exact a
    ·exact h i G
   ·exact .inr (.inr ⟨H,G,λi hi=>(h i hi).symm,a⟩)
  ·exact .inr (.inr ⟨k,G,h⟩)
theorem aHe {h:Nat} {U V:Nat->Int}:EqH (H+h) U V↔EqH H U V/\EqH h (λi=>U (i+H)) (λi=>V (i+H)):=by
 constructor
 ·exact λe=>⟨λi hi=>e i G,λi hi=>e (i+H) G⟩
 ·rintro ⟨a,b⟩ i hi;by_cases c:i<H
  ·exact a i c
  ·have:=b (i-H) G;simpa [qx (show H<=i by omega)] using this
theorem aZa {h:Nat} {U V:Nat->Int}:LtH (H+h) U V↔LtH H U V\/EqH H U V/\LtH h (λi=>U (i+H)) (λi=>V (i+H)):=by
 constructor
 ·rintro ⟨k,hk,h1,hl⟩;by_cases c:k<H
  ·exact .inl ⟨k,c,h1,hl⟩
  ·refine .inr ⟨λi hi=>h1 i G,k-H,G,λi hi=>h1 (i+H) G,?_⟩;simpa [qx (show H<=k by omega)] using hl
 ·rintro (⟨k,hk,h1,hl⟩|⟨e,k,hk,h1,hl⟩)
  ·exact⟨k,G,h1,hl⟩
  ·refine ⟨k+H,G,λi hi=> ?_,hl⟩;by_cases c:i<H
   ·exact e i c
   ·have:=h1 (i-H) G;simpa [qx (show H<=i by omega)] using this
def RK (ws:AD) (bs:AH) (H:Nat) (rs:AH):Prop:= ∀t u,TV ws t->TV ws u->(rd rs (iG bs t)<rd rs (iG bs u)↔LtH H (tw ws t) (tw ws u))/\(rd rs (iG bs t)=rd rs (iG bs u)↔EqH H (tw ws t) (tw ws u))
def sh (ws:AD) (t:Int × Int) (h:Int):Int × Int:=(t.1,(t.2+h)%((rdl ws t.1).length:Int))
theorem aFm {t:Int × Int} (ht:TV ws t):TV ws (sh ws t h):=by
 obtain⟨a,b,c,d⟩:=ht;exact⟨a,b,yw _ G,vk _ G⟩
theorem UH (ws:AD) (bs rs:AH) (t:Int × Int) (h:Int):ahd ws bs rs t h=rd rs (iG bs (sh ws t h)):=rfl
theorem GV {t:Int × Int} (ht:TV ws t):sh ws t 0=t:=by
 obtain⟨a,b,c,d⟩:=ht;unfold sh;rw[zm,qj c d]
theorem OL {t:Int × Int} (ht:TV ws t) (hh:0<=h) (j:Nat):tw ws (sh ws t h) j=tw ws t (j+h.toNat):=by
 obtain⟨a,b,c,d⟩:=ht;unfold tw sh;simp only;congr 1;obtain⟨x,hx⟩: ∃m:Nat,t.2=m:=⟨t.2.toNat,G⟩;obtain⟨y,rfl⟩: ∃m:Nat,h=m:=⟨h.toNat,G⟩;rw[hx,bq,bq,show((x:Int)+(y:Int))=((x+y:Nat):Int) by omega,<-ze,bq,Nat.mod_add_mod];congr 1;omega
def gI (h:Int):Nat:=if h=0 then 1 else(2*h).toNat
def mW (h:Int):Nat:=(max 1 h).toNat
theorem aGp (hh:0<=h) (hr:RK ws bs (mW h) rs) {t u:Int × Int} (ht:TV ws t) (hu:TV ws u):
  (LtH (gI h) (tw ws t) (tw ws u)↔(ahd ws bs rs t 0<ahd ws bs rs u 0\/ahd ws bs rs t 0=ahd ws bs rs u 0/\ahd ws bs rs t h<ahd ws bs rs u h))/\
  (EqH (gI h) (tw ws t) (tw ws u)↔(ahd ws bs rs t 0=ahd ws bs rs u 0/\ahd ws bs rs t h=ahd ws bs rs u h)):=by
 have r0:=hr t u ht hu;have r1:=hr _ _ (aFm (h:=h) ht) (aFm (h:=h) hu);rw[UH,UH,UH,UH,GV ht,GV hu];by_cases h0:h=0
 ·subst h0;rw[GV ht,GV hu];have e:gI 0=mW 0:=cC
  rw[e,<-r0.1,<-r0.2];constructor<;>omega
 ·have e1:mW h=h.toNat:=by unfold mW;omega
  have e2:gI h=h.toNat+h.toNat:=by unfold gI;rw[df h0];omega
  rw[e1] at r0 r1;rw[e2,aZa,aHe,<-r0.1,<-r0.2];have f1:(λi=>tw ws t (i+h.toNat))=tw ws (sh ws t h):=funext λi=>(OL ht hh i).symm;have f2:(λi=>tw ws u (i+h.toNat))=tw ws (sh ws u h):=funext λi=>(OL hu hh i).symm;rw[f1,f2,<-r1.1,<-r1.2];exact⟨Iff.rfl,Iff.rfl⟩
def ltI (t u:Int × Int):Prop:=t.1<u.1\/t.1=u.1/\t.2<u.2
def aRh (ws:AD) (H:Nat) (t u:Int × Int):Prop:=LtH H (tw ws t) (tw ws u)\/EqH H (tw ws t) (tw ws u)/\ltI t u
theorem aOw (hh:0<=h) (hr:RK ws bs (mW h) rs) {t u:Int × Int} (ht:TV ws t) (hu:TV ws u):aBa ws bs rs h t u<0↔aRh ws (gI h) t u:=by
 obtain⟨a,b⟩:=aGp hh hr ht hu;rw[zQ];unfold aRh ltI;rw[a,b];omega
theorem aSq (hh:0<=h) (hr:RK ws bs (mW h) rs) {t u:Int × Int} (ht:TV ws t) (hu:TV ws u):FI ws bs rs h t u↔ ¬EqH (gI h) (tw ws t) (tw ws u):=by
 obtain⟨_,b⟩:=aGp hh hr ht hu;rw[b];unfold FI;omega
theorem vE: ∀ {a b:AH},a.Perm b->a.Pairwise (· <= ·)->b.Pairwise (· <= ·)->a=b
 |[],b,h,_,_=>(List.nil_perm.1 h).symm
 |x::a,[],h,_,_=>absurd h.symm cD
 | x::a,y::b,h,ha,hb=>by
  have h1:y<=x:=by
   rcases iw.1 (h.mem_iff.1 (.head _)) with e|e
   ·omega
   ·exact(il.1 hb).1 x e
  have h2:x<=y:=by
   rcases iw.1 (h.mem_iff.2 (.head _)) with e|e
   ·omega
   ·exact(il.1 ha).1 y e
  have e:x=y:=G
  subst e;rw[vE ((List.perm_cons x).1 h) (il.1 ha).2 (il.1 hb).2]
theorem LtH.mono {H M:Nat} {U V:Nat->Int} (h:LtH H U V) (hm:H<=M):LtH M U V:=by
 obtain⟨k,hk,r⟩:=h;exact⟨k,G,r⟩
theorem EqH.mono {H M:Nat} {U V:Nat->Int} (h:EqH M U V) (hm:H<=M):EqH H U V:=λi hi=>h i G
structure Sorted (ws:AD) (M:Nat) (l:AE):Prop where
 tv: ∀t∈l,TV ws t
 nodup:l.Nodup
 pw:l.Pairwise λx y=> ¬aRh ws M y x
theorem oH {l:AE} {j:Nat} (h:j<l.length):rdp l j=l[j]:=by
 simp[rdp,af,av h]
theorem Sorted.le {ws:AD} {M:Nat} {l:AE} (s:Sorted ws M l) {i j:Nat} (pe:i<j) (hj:j<l.length): ¬LtH M (tw ws (rdp l j)) (tw ws (rdp l i)):=by
 have:=dz.1 s.pw i j G hj pe;rw[oH hj,oH G];exact λh=>this (.inl h)
theorem Sorted.eq_between {ws:AD} {M:Nat} {l:AE} (s:Sorted ws M l) {i m j:Nat} (h1:i<=m) (h2:m<=j) (hj:j<l.length) (he:EqH M (tw ws (rdp l i)) (tw ws (rdp l j))):EqH M (tw ws (rdp l i)) (tw ws (rdp l m)):=by
 rcases Nat.eq_or_lt_of_le h1 with rfl|h1
 ·exact λ_ _=>rfl
 rcases Nat.eq_or_lt_of_le h2 with rfl|h2
 ·exact he
 rcases tri M (tw ws (rdp l i)) (tw ws (rdp l m)) with a|a|a
 ·exact absurd (LtH.eq_left he.symm a) (s.le h2 hj)
 ·exact a
 ·exact absurd a (s.le h1 G)
section
variable {ws:AD} {bs rs:AH} {h:Int} {l:AE}
theorem MN (hh:0<=h) (hr:RK ws bs (mW h) rs) (s:Sorted ws (gI h) l) {j:Nat} (hj:j+1<l.length):
  (EqH (gI h) (tw ws (rdp l j)) (tw ws (rdp l (j+1:Nat)))/\iK ws bs rs h l (j+1)=iK ws bs rs h l j)\/(¬EqH (gI h) (tw ws (rdp l j)) (tw ws (rdp l (j+1:Nat)))/\iK ws bs rs h l (j+1)=iK ws bs rs h l j+1):=by
 have ht:=s.tv _ (kP (l:=l) (i:=(j:Int)) G G);have hu:=s.tv _ (kP (l:=l) (i:=((j+1:Nat):Int)) G G);have hk:=aSq hh hr ht hu;show _/\iK ws bs rs h l j+(if FI ws bs rs h (rdp l j) (rdp l (j+1:Nat)) then 1 else 0)=_\/_;by_cases e:EqH (gI h) (tw ws (rdp l j)) (tw ws (rdp l (j+1:Nat)))
 ·exact .inl ⟨e,by rw[df (λk=>hk.1 k e),zm]⟩
 ·refine .inr ⟨e,?_⟩;show iK ws bs rs h l j+(if FI ws bs rs h (rdp l j) (rdp l (j+1:Nat)) then 1 else 0)=_;rw[di (hk.2 e)]
theorem MO (hh:0<=h) (hr:RK ws bs (mW h) rs) (s:Sorted ws (gI h) l) {i:Nat}: ∀d,i+d<l.length->iK ws bs rs h l i<=iK ws bs rs h l (i+d)/\(iK ws bs rs h l i=iK ws bs rs h l (i+d)↔EqH (gI h) (tw ws (rdp l i)) (tw ws (rdp l (i+d:Nat))))
 |0,_=>⟨lq _,⟨λ_ _ _=>rfl,λ_=>rfl⟩⟩
 | d+1,hd=>by
  obtain⟨a,b⟩:=MO (i:=i) hh hr s d G;rcases MN hh hr s (j:=i+d) hd with⟨e,c⟩|⟨e,c⟩
  ·have c':iK ws bs rs h l (i+(d+1))=iK ws bs rs h l (i+d):=c;rw[c'];refine⟨a,b.trans ⟨λx=>x.trans e,λx=>x.trans e.symm⟩⟩
  ·have c':iK ws bs rs h l (i+(d+1))=iK ws bs rs h l (i+d)+1:=c;rw[c'];refine⟨G,⟨λx=>G,λx=>absurd ?_ e⟩⟩;have y:=s.eq_between (m:=i+d) G G hd x;exact y.symm.trans x
theorem aUw (hh:0<=h) (hr:RK ws bs (mW h) rs) (s:Sorted ws (gI h) l) {i j:Nat} (hi:i<l.length) (hj:j<l.length):
  (iK ws bs rs h l i<iK ws bs rs h l j↔LtH (gI h) (tw ws (rdp l i)) (tw ws (rdp l j)))/\(iK ws bs rs h l i=iK ws bs rs h l j↔EqH (gI h) (tw ws (rdp l i)) (tw ws (rdp l j))):=by
 rcases xe i j with bo|rfl|bo
 ·obtain ⟨d,rfl⟩: ∃d,j=i+d:=⟨j-i,G⟩;obtain⟨a,b⟩:=MO (i:=i) hh hr s d hj;refine⟨?_,b⟩;constructor
  ·intro x;rcases tri (gI h) (tw ws (rdp l i)) (tw ws (rdp l (i+d:Nat))) with y|y|y
   ·exact y
   ·have:=b.2 y;omega
   ·exact absurd y (s.le bo hj)
  ·intro x;have:iK ws bs rs h l i≠iK ws bs rs h l (i+d):=λe=>x.not_eq (b.1 e);omega
 ·exact⟨⟨λx=>G,λx=>absurd x x.asymm⟩,⟨λ_ _ _=>rfl,λ_=>rfl⟩⟩
 ·obtain ⟨d,rfl⟩: ∃d,i=j+d:=⟨i-j,G⟩;obtain⟨a,b⟩:=MO (i:=j) hh hr s d hi;refine⟨⟨λx=>G,λx=>absurd x (s.le bo hi)⟩,⟨λx=>(b.1 x.symm).symm,λx=>(b.2 x.symm).symm⟩⟩
theorem aXp (hh:0<=h) (hr:RK ws bs (mW h) rs) (s:Sorted ws (gI h) l) (gs: ∀t,TV ws t->t∈l) {rk:AH} (l4: ∀j:Nat,j<l.length->rd rk (iG bs (rdp l j))=iK ws bs rs h l j):RK ws bs (gI h) rk:=by
 intro t u ht hu;obtain⟨i,hi,rfl⟩:=ic.1 (gs t ht);obtain⟨j,hj,rfl⟩:=ic.1 (gs u hu);rw[<-oH hi,<-oH hj,l4 i hi,l4 j hj];exact aUw hh hr s hi hj
structure Steps (bs rs:AH) (lo:AE) (w:Int):Prop where
 zero:0<lo.length->rd rs (iG bs (rdp lo (0:Nat)))=0
 step: ∀j:Nat,j+1<lo.length->rd rs (iG bs (rdp lo (j+1:Nat)))=rd rs (iG bs (rdp lo j))\/rd rs (iG bs (rdp lo (j+1:Nat)))=rd rs (iG bs (rdp lo j))+1
 last:0<lo.length->rd rs (iG bs (rdp lo ((lo.length-1:Nat):Int)))=w
theorem aBc (hh:0<=h) (hr:RK ws bs (mW h) rs) (s:Sorted ws (gI h) l) {rk:AH} (l4: ∀j:Nat,j<l.length->rd rk (iG bs (rdp l j))=iK ws bs rs h l j):Steps bs rk l (iK ws bs rs h l (l.length-1)):=by
 refine⟨λh0=>by rw[l4 0 h0];rfl,λj hj=> ?_,λh0=>l4 _ G⟩;rw[l4 _ hj,l4 j G];rcases MN hh hr s hj with⟨_,e⟩|⟨_,e⟩
 ·exact .inl e
 ·exact .inr e
theorem LB {f:Int × Int->Int} {l:AE} (h: ∀j:Nat,j+1<l.length->f (rdp l j)<=f (rdp l (j+1:Nat))):(l.map f).Pairwise (· <= ·):=by
 have mono: ∀d i:Nat,i+d<l.length->f (rdp l i)<=f (rdp l (i+d:Nat)):=by
  intro d
  induction d with
  |zero=>intro i _;exact lq _
  |succ d ih=>intro i hi;exact Jg (ih i G) (h (i+d) G)
 refine ib.2 (dz.2 λi j hi hj pe=> ?_);have:=mono (j-i) i G;rw[show i+(j-i)=j by omega,oH hi,oH hj] at this;exact this
theorem aYo (h0:0<h) (hr:RK ws bs (mW h) rs) (s:Sorted ws (gI h) l) {lo:AE} {w:Int} (hp:l.Perm lo) (st:Steps bs rs lo w) (hw:iK ws bs rs h l (l.length-1)=w) {i j:Nat} (hi:i<l.length) (hj:j<l.length)
  (he:EqH (mW h) (tw ws (rdp l i)) (tw ws (rdp l j))):EqH (gI h) (tw ws (rdp l i)) (tw ws (rdp l j)):=by
 have hh:0<=h:=G
 have Qq:mW h<=gI h:=by unfold mW gI;rw[df G];omega
 have hlen:=hp.length_eq
 let g:Int × Int->Int:=λt=>rd rs (iG bs t)
 have Ru: ∀j:Nat,j<l.length->TV ws (rdp l j):=λj hj=>s.tv _ (kP G G)
 have ga:(l.map g).Pairwise (· <= ·):=LB λj hj=>by
  have hn:=s.le (i:=j) (j:=j+1) G hj;have:=(hr _ _ (Ru (j+1) hj) (Ru j G)).1;have Wo: ¬rd rs (iG bs (rdp l (j+1:Nat)))<rd rs (iG bs (rdp l j)):=λx=>hn ((this.1 x).mono Qq);show rd rs (iG bs (rdp l j))<=rd rs (iG bs (rdp l (j+1:Nat)));omega
 have gb:(lo.map g).Pairwise (· <= ·):=LB λj hj=>by
  show rd rs (iG bs (rdp lo j))<=rd rs (iG bs (rdp lo (j+1:Nat)));rcases st.step j hj with e|e<;>omega
 have o8:=vE (hp.map g) ga gb
 have gj: ∀j:Nat,j<l.length->g (rdp l j)=g (rdp lo j):=λj hj=>by
  have h2:j<lo.length:=G
  have:=bg (λq=>q[j]?) o8;simp only[kv,av hj,av h2,jy,lv] at this;rw[oH hj,oH h2];exact this
 have key: ∀d k:Nat,k+d<l.length->iK ws bs rs h l k-g (rdp l k)<=iK ws bs rs h l (k+d)-g (rdp l (k+d:Nat)):=by
  intro d
  induction d with
  |zero=>intro k _;exact lq _
  | succ d ih=>
   intro k hk;refine Jg (ih k G) ?_;have e1:=gj (k+d) G;have e2:=gj (k+(d+1)) hk;have ff:=st.step (k+d) G;have hg:g (rdp lo (k+(d+1):Nat))=g (rdp lo (k+d:Nat))\/g (rdp lo (k+(d+1):Nat))=g (rdp lo (k+d:Nat))+1:=ff;rcases MN hh hr s (j:=k+d) hk with⟨e,c⟩|⟨e,c⟩
   ·have c':iK ws bs rs h l (k+(d+1))=iK ws bs rs h l (k+d):=c;have:=(hr _ _ (Ru (k+d) G) (Ru (k+d+1) hk)).2.2 (e.mono Qq);have this':g (rdp l (k+d:Nat))=g (rdp l (k+(d+1):Nat)):=this;omega
   ·have c':iK ws bs rs h l (k+(d+1))=iK ws bs rs h l (k+d)+1:=c;omega
 have Se: ∀k:Nat,k<l.length->iK ws bs rs h l k=g (rdp l k):=by
  intro k hk;have dy:0<l.length:=G
  have a:=key k 0 G;have b:=key (l.length-1-k) k G;rw[mg] at a;rw[show k+(l.length-1-k)=l.length-1 by omega,hw] at b;have z:=gj 0 dy;have z':g (rdp lo (0:Nat))=0:=st.zero G;have y:=gj (l.length-1) G;have y':=st.last G;rw[<-hlen] at y';have y'':g (rdp lo ((l.length-1:Nat):Int))=w:=y';have c0:iK ws bs rs h l 0=0:=rfl;omega
 have e1:=(hr _ _ (Ru i hi) (Ru j hj)).2.2 he;refine(aUw hh hr s hi hj).2.1 ?_;rw[Se i hi,Se j hj];exact e1
end
def Lyn (f:Nat->Int) (p:Nat):Prop:=0<p/\ ∀r,0<r->r<p-> ∃d,r+d<p/\(∀e,e<d->f e=f (r+e))/\f d<f (r+d)
def wW (f:Nat->Int) (p j:Nat):Prop:= ∀i,i+p<j->f (i+p)=f i
theorem wW.mod {f:Nat->Int} {p j:Nat} (hp:0<p) (h:wW f p j): ∀i,i<j->f i=f (i%p):=by
 intro i
 induction i using Nat.strongRecOn with
 | ind i ih=>
  intro hi;rcases gu i p with a|a
  ·rw[mf a]
  ·have e:=h (i-p) G;rw[show i-p+p=i by omega] at e;rw[e,ih (i-p) G G];congr 1;rw[Ak a]
theorem aUk {f:Nat->Int} {p j:Nat} (hL:Lyn f p) (mm:wW f p j) (Mr:p<=j) (bo:f (j-p)<f j):Lyn f (j+1):=by
 obtain⟨hp,hL⟩:=hL;have hm:=mm.mod hp;refine⟨G,λr h0 hr=> ?_⟩;have hjp:(j-p)%p=j%p:=(Ak Mr).symm
 have hq: ∀e,r+e<j->r%p+e<p->f (r+e)=f (r%p+e):=by
  intro e h1 h2;rw[hm _ h1];congr 1;rw[Kh,mf (a:=e) G,mf h2]
 have Qw:f (j-p)=f (j%p):=by rw[hm (j-p) G,hjp]
 rcases fe (r%p) with hz|hz
 ·refine ⟨j-r,G,λe he=> ?_,?_⟩
  ·rw [hm e G,hm (r+e) G];congr 1;rw[Kh,hz,mg,Nat.mod_mod]
  ·rw [show r+(j-r)=j by omega]
   have e1:(j-r)%p=j%p:=by
    have:j=r+(j-r):=G
    conv=>rhs;rw[this,Kh,hz,mg,Nat.mod_mod]
   rcases gu 0 r with _|_
   ·rw[hm (j-r) G,e1,<-Qw];exact bo
   ·omega
 ·obtain ⟨d0,hd,o8,hl⟩:=hL (r%p) hz (yx _ hp);rcases gu (r+d0) j with a|a
  ·refine ⟨d0,G,λe he=> ?_,?_⟩
   ·rw[hq e G G];exact o8 e he
   ·rw[hq d0 a hd];exact hl
  ·refine ⟨j-r,G,λe he=> ?_,?_⟩
   ·rw[hq e G G];exact o8 e G
   ·rw [show r+(j-r)=j by omega]
    have e1:j%p=r%p+(j-r):=by
     have:j=r+(j-r):=G
     conv=>lhs;rw[this,Kh,mf (a:=j-r) G]
     exact mf G
    rw[e1] at Qw
    have:f (j-r)<=f (r%p+(j-r)):=by
     rcases gu (j-r) d0 with b|b
     ·exact Int.le_of_eq (o8 _ b)
     ·have:j-r=d0:=G
      rw[this];omega
    omega
theorem aMp {f:Nat->Int} {p j n:Nat} (hp:0<p) (mm:wW f p j) (Mr:p<=j) (d7:j<n->f j<f (j-p)) {m:Nat} (hpm:p<m) (hm:m<=n): ¬Lyn f m:=by
 rintro⟨_,h⟩;obtain⟨d,hd,o8,hl⟩:=h p hp hpm;rcases gu (p+d) j with a|a
 ·have:=mm d G;rw[ut p d,this] at hl;omega
 ·have hs:=d7 G;rcases gu (j-p) d with b|b
  ·have:=o8 _ b;rw[show p+(j-p)=j by omega] at this;omega
  ·rw [show j-p=d by omega] at hs;rw[show p+d=j by omega] at hl;omega
def lt (s:AH) (i:Nat):Int:=s.getD i 0
theorem mX: ∀(u v:AH),v.length<u.length->(cmpL u v<0↔ ∃d,d<v.length/\(∀e,e<d->lt u e=lt v e)/\lt u d<lt v d)
 |[],v,h=>by simp at h
 |a::u,[],h=>by simp[cmpL]
 | a::u,b::v,h=>by
  have ih:=mX u v (by simpa using h);rw[cmpL];rcases je a b with c|c|c
  ·rw [di c];exact⟨λ_=>⟨0,cD,λe he=>G,c⟩,λ_=>G⟩
  ·subst c;rw[df G,df G,ih];constructor
   ·rintro ⟨d,h1,h2,h3⟩;refine⟨d+1,by simpa using h1,λe he=> ?_,h3⟩;cases e with
    |zero=>rfl
    |succ e=>exact h2 e G
   ·rintro ⟨d,h1,h2,h3⟩;cases d with
    |zero=>exact absurd h3 (by simp[lt])
    |succ d=>exact⟨d,by simpa using h1,λe he=>h2 (e+1) G,h3⟩
  ·rw [df G,di c];refine⟨λh=>G,?_⟩;rintro⟨d,h1,h2,h3⟩;cases d with
   |zero=>have:a<b:=h3;omega
   |succ d=>have:a=b:=h2 0 G;omega
theorem iV (s:AH) (a i:Nat):lt (s.drop a) i=lt s (a+i):=by simp[lt,af]
theorem lt_take {s:AH} {a i:Nat} (h:i<a):lt (s.take a) i=lt s i:=by simp[lt,af,h]
theorem LC {s:AH} {i:Int}:rd s i=lt s i.toNat:=rfl
def pV (s:AH):Bool:= !s.isEmpty && (List.range s.length).all λr=>Nat.beq r 0||decide (cmpL s (s.drop r)<0)
theorem nA (s:AH):pV s=true↔0<s.length/\ ∀r:Nat,0<r->r<s.length->cmpL s (s.drop r)<0:=by
 unfold pV;rw[pz,vw];have e:(!s.isEmpty)=true↔0<s.length:=by cases s<;>simp
 rw[e];refine and_congr_right λ_=>⟨λh r h0 hr=> ?_,λh r hr=> ?_⟩
 ·have:=h r (jm.2 hr);rw[Ar,iv] at this;rcases this with a|a
  ·have:=xq a;omega
  ·exact a
 ·rw [Ar,iv];rcases fe r with a|a
  ·left;subst a;rfl
  ·exact .inr (h r a (jm.1 hr))
theorem aAf (s:AH) (a p:Nat) (h:a+p<=s.length):pV ((s.drop a).take p)=true↔Lyn (λi=>lt s (a+i)) p:=by
 have hl:((s.drop a).take p).length=p:=by rw[ax,bn];omega
 rw[nA,hl];unfold Lyn;refine and_congr_right λ_=>forall_congr' λr=>forall_congr' λh0=>forall_congr' λhr=> ?_;rw[mX _ _ (by rw[bn,hl];omega),bn,hl];constructor
 ·rintro ⟨d,h1,h2,h3⟩;refine⟨d,G,λe he=> ?_,?_⟩
  ·have:=h2 e he;rwa[iV,lt_take G,lt_take G,iV,iV] at this
  ·rwa[iV,lt_take G,lt_take G,iV,iV] at h3
 ·rintro ⟨d,h1,h2,h3⟩;refine⟨d,G,λe he=> ?_,?_⟩
  ·rw[iV,lt_take G,lt_take G,iV,iV];exact h2 e he
  ·rw[iV,lt_take G,lt_take G,iV,iV];exact h3
def mU (s:AH):Nat->Nat
 |0=>0
 |n+1=>if pV (s.take (n+1)) then n+1 else mU s n
theorem DY {s:AH} {p:Nat} (h:pV (s.take p)=true): ∀n,p<=n->(∀m,p<m->m<=n->pV (s.take m)=false)->mU s n=p
 |0,hp,_=>by unfold mU;omega
 | n+1,hp,hn=>by
  unfold mU;rcases gu p (n+1) with a|a
  ·rw [hn (n+1) a (dn _)];simp only[vg,xg];exact DY h n G λm h1 h2=>hn m h1 G
  ·have:p=n+1:=G
   subst this;rw[h,di rfl]
theorem aSa (s:AH) (h:0<s.length):pV (s.take 1)=true:=by
 cases s with
 |nil=>simp at h
 |cons a s=>rfl
theorem qQ {s:AH} (h:0<s.length): ∀n,0<n->0<mU s n
 | n+1,_=>by
  unfold mU;split
  ·omega
  ·rename_i hh;cases n with
   |zero=>exact absurd (aSa s h) hh
   |succ n=>exact qQ h (n+1) G
theorem PY (s:AH): ∀n,mU s n<=n
 |0=>dn _
 |n+1=>by
  unfold mU;split
  ·omega
  ·have:=PY s n;omega
def NT:Nat->AH->AH
 |0,_=>[]
 |f+1,s=>if s.isEmpty then [] else(mU s s.length:Int)::NT f (s.drop (mU s s.length))
def fT (s:AH):AH:=NT s.length s
theorem QI: ∀(f g:Nat) (s:AH),s.length<=f->s.length<=g->NT f s=NT g s
 |0,g,s,h,_=>by
  have:s=[]:=Ad.1 G;subst this;cases g<;>rfl
 |f+1,0,s,_,h=>by
  have:s=[]:=Ad.1 G;subst this;rfl
 | f+1,g+1,s,h1,h2=>by
  unfold NT;cases s with
  |nil=>rfl
  |cons a s=>
   simp only[Dr,vg,xg];have:=qQ (s:=a::s) cD (a::s).length cD;rw[QI f g _ (by rw[bn];omega) (by rw[bn];omega)]
theorem YC {s:AH} (h:s.length=0):fT s=[]:=by
 have:s=[]:=Ad.1 h;subst this;rfl
theorem QJ {s:AH} (h:0<s.length):fT s=(mU s s.length:Int)::fT (s.drop (mU s s.length)):=by
 unfold fT;cases s with
 |nil=>simp at h
 |cons a s=>
  rw[show(a::s).length=s.length+1 from rfl,NT];simp only[Dr,vg,xg];have:=qQ (s:=a::s) cD (a::s).length cD;rw[show s.length+1=(a::s).length from rfl];congr 1;exact QI _ _ _ (by rw[bn];simp only[dm] at*;omega) (dn _)
theorem aMq {s:AH} {a p j:Nat} (hL:Lyn (λi=>lt s (a+i)) p) (mm:wW (λi=>lt s (a+i)) p j) (Mr:p<=j) (Wf:a+j<=s.length) (d7:a+j<s.length->lt s (a+j)<lt s (a+j-p)):mU (s.drop a) (s.drop a).length=p:=by
 have hp:=hL.1;refine DY ((aAf s a p G).2 hL) _ (by rw[bn];omega) λm h1 h2=> ?_;rw[bn] at h2;cases hb:pV ((s.drop a).take m) with
 |false=>rfl
 |true=>
  exact absurd ((aAf s a m G).1 hb) (aMp (f:=λi=>lt s (a+i)) (n:=s.length-a) hp mm Mr (λh=>by rw[show a+(j-p)=a+j-p by omega];exact d7 G) h1 h2)
theorem Lyn.over {s:AH} {a p j:Nat} (hL:Lyn (λi=>lt s (a+i)) p) (mm:wW (λi=>lt s (a+i)) p j) (Mr:p+p<=j):Lyn (λi=>lt s (a+p+i)) p:=by
 refine⟨hL.1,λr h0 hr=> ?_⟩;obtain⟨d,h1,h2,h3⟩:=hL.2 r h0 hr
 have e: ∀i,i<p->lt s (a+p+i)=lt s (a+i):=λi hi=>by
  have:=mm i G;rw[show a+p+i=a+(i+p) by omega];exact this
 refine⟨d,h1,λq hq=> ?_,?_⟩
 ·simp only at h2 ⊢;rw[e q G,e (r+q) G];exact h2 q hq
 ·simp only at h3 ⊢;rw[e d G,e (r+d) G];exact h3
theorem wW.over {s:AH} {a p j:Nat} (mm:wW (λi=>lt s (a+i)) p j) (Mr:p<=j):wW (λi=>lt s (a+p+i)) p (j-p):=by
 intro i hi;have:=mm (i+p) G;simp only at this ⊢;rw[show a+p+(i+p)=a+(i+p+p) by omega,show a+p+i=a+(i+p) by omega];exact this
theorem aYw (f:Nat->Int):Lyn f 1:=⟨G,λr h0 hr=>G⟩
theorem aQx (f:Nat->Int):wW f 1 1:=λi hi=>G
theorem aKj (f:Nat->Int) (p:Nat):wW f p p:=λi hi=>G
theorem wW.snoc {f:Nat->Int} {p j:Nat} (h:wW f p j) (Mr:p<=j) (he:f j=f (j-p)):wW f p (j+1):=by
 intro i hi;rcases gu (i+p) j with a|a
 ·exact h i a
 ·rw[show i+p=j by omega,he];congr 1;omega
section
variable {s:AH} {a i j b:Int}
def tN (s:AH) (a p:Int):Prop:=Lyn (λe=>lt s (a.toNat+e)) p.toNat
def tJ (s:AH) (a p n:Int):Prop:=wW (λe=>lt s (a.toNat+e)) p.toNat n.toNat
theorem FN:tN s a (a+1-a)/\tJ s a (a+1-a) (a+1-a):=by
 unfold tN tJ;rw[show(a+1-a).toNat=1 by omega];exact⟨aYw _,aQx _⟩
theorem YS (h0:0<=a) (Ks:a<=i) (pe:i<j) (hL:tN s a (j-i)) (hP:tJ s a (j-i) (j-a)) (bo:rd s i<rd s j):tN s a (j+1-a)/\tJ s a (j+1-a) (j+1-a):=by
 refine⟨?_,aKj _ _⟩;unfold tN
 have:=aUk hL hP G (by
  show lt s (a.toNat+((j-a).toNat-(j-i).toNat))<lt s (a.toNat+(j-a).toNat);rw[show a.toNat+((j-a).toNat-(j-i).toNat)=i.toNat by omega,show a.toNat+(j-a).toNat=j.toNat by omega]
  exact bo)
 rwa[show(j-a).toNat+1=(j+1-a).toNat by omega] at this
theorem YT (h0:0<=a) (Ks:a<=i) (pe:i<j) (hL:tN s a (j-i)) (hP:tJ s a (j-i) (j-a)) (he:rd s i<=rd s j) (hn: ¬rd s i<rd s j):tN s a (j+1-(i+1))/\tJ s a (j+1-(i+1)) (j+1-a):=by
 rw[show j+1-(i+1)=j-i by omega];refine⟨hL,?_⟩;unfold tJ;rw[show(j+1-a).toNat=(j-a).toNat+1 by omega];refine wW.snoc hP G ?_;show lt s (a.toNat+(j-a).toNat)=lt s (a.toNat+((j-a).toNat-(j-i).toNat));rw[show a.toNat+((j-a).toNat-(j-i).toNat)=i.toNat by omega,show a.toNat+(j-a).toNat=j.toNat by omega];have:rd s i=rd s j:=G
 exact this.symm
theorem aMo (h0:0<=b) (un:b<=i) (pe:i<j) (hj:j<=s.length) (hL:tN s b (j-i)) (hP:tJ s b (j-i) (j-b)) (d7: ¬(j<s.length/\rd s i<=rd s j)):fT (s.drop b.toNat)=(j-i)::fT (s.drop (b+(j-i)).toNat):=by
 have hlen:=aMq hL hP G G λh=>by
  rw[show b.toNat+(j-b).toNat=j.toNat by omega,show j.toNat-(j-i).toNat=i.toNat by omega];have: ¬rd s i<=rd s j:=λhh=>d7 ⟨G,hh⟩;have:rd s j<rd s i:=G
  exact this
 have dy:0<(s.drop b.toNat).length:=by rw[bn];omega
 rw[QJ dy,hlen,List.drop_drop];rw[show((j-i).toNat:Int)=j-i by omega,show b.toNat+(j-i).toNat=(b+(j-i)).toNat by omega]
theorem aDl (h0:0<=b) (pe:i<j) (hL:tN s b (j-i)) (hP:tJ s b (j-i) (j-b)) (h:b+(j-i)<=i):tN s (b+(j-i)) (j-i)/\tJ s (b+(j-i)) (j-i) (j-(b+(j-i))):=by
 unfold tN tJ;rw[show(b+(j-i)).toNat=b.toNat+(j-i).toNat by omega,show(j-(b+(j-i))).toNat=(j-b).toNat-(j-i).toNat by omega];exact⟨Lyn.over hL hP G,wW.over hP G⟩
end
variable {s:AH} {i d h n b k:Nat}
theorem aSb {M:Nat} {U V:Nat->Int}:LtH (M+1) U V↔U 0<V 0\/U 0=V 0/\LtH M (λi=>U (i+1)) (λi=>V (i+1)):=by
 constructor
 ·rintro ⟨k,hk,h1,h2⟩;cases k with
  |zero=>exact .inl h2
  |succ k=>exact .inr ⟨h1 0 G,k,G,λi hi=>h1 (i+1) G,h2⟩
 ·rintro (h|⟨e,k,hk,h1,h2⟩)
  ·exact⟨0,G,λi hi=>G,h⟩
  ·refine ⟨k+1,G,λi hi=> ?_,h2⟩;cases i with
   |zero=>exact e
   |succ i=>exact h1 i G
def pad (m:Int) (l:AH) (d:Nat):Int:=if d<l.length then lt l d-m+1 else 0
theorem ZJ (m:Int): ∀(a b:AH) (N:Nat),a.length<=N->b.length<=N->(∀x∈a,m<=x)->(∀x∈b,m<=x)->(cmpL a b<0↔LtH N (pad m a) (pad m b))
 |[],[],N,_,_,_,_=>by
  simp only[cmpL];refine⟨λh=>G,?_⟩;rintro⟨k,_,_,h⟩;simp[pad] at h
 |[],b::v,N,_,hb,_,mb=>by
  simp only[cmpL];have:=mb b cD;refine⟨λ_=>⟨0,by simp only[dm] at hb;omega,λi hi=>G,?_⟩,λ_=>G⟩;have e1:pad m [] 0=0:=rfl;have e2:pad m (b::v) 0=b-m+1:=by unfold pad;rw[di cD];rfl
  rw[e1,e2];omega
 | a::u,[],N,_,_,ma,_=>by
  simp only[cmpL];refine⟨λh=>G,?_⟩;rintro⟨k,_,_,h⟩;exfalso;have e1:pad m [] k=0:=by unfold pad;rw[df cD]
  rw[e1] at h;unfold pad at h;split at h
  ·rename_i hk
   have:m<=lt (a::u) k:=ma _ (by
    unfold lt;rw[af,av hk]
    exact ky _)
   omega
  ·omega
 |a::u,b::v,0,h,_,_,_=>by simp at h
 | a::u,b::v,N+1,ha,hb,ma,mb=>by
  have ih:=ZJ m u v N (by simpa using ha) (by simpa using hb) (λx hx=>ma x (fw _ hx)) (λx hx=>mb x (fw _ hx));have e0: ∀(x:Int) (xs:AH),pad m (x::xs) 0=x-m+1:=λx xs=>by unfold pad;rw[di cD];rfl
  have e1: ∀(x:Int) (xs:AH),(λi=>pad m (x::xs) (i+1))=pad m xs:=λx xs=>by
   funext i;unfold pad;by_cases h:i<xs.length
   ·rw[di (by simpa using h),di h];rfl
   ·rw[df (by simpa using h),df h]
  rw[cmpL,aSb,e0,e0,e1,e1];rcases je a b with c|c|c
  ·rw [di c];exact⟨λ_=> .inl G,λ_=>G⟩
  ·subst c;rw[df G,df G,ih];exact⟨λh=> .inr ⟨rfl,h⟩,λh=>h.elim (λh=>G) λh=>h.2⟩
  ·rw [df G,di c];exact⟨λh=>G,λh=>h.elim (λh=>G) λh=>G⟩
def lo (s:AH):Int:=s.foldr min 0
theorem aSf: ∀ {s:AH} {x:Int},x∈s->lo s<=x
 | a::s,x,h=>by
  unfold lo;rw[List.foldr_cons];rcases iw.1 h with rfl|h
  ·exact Int.min_le_left _ _
  ·have:=aSf h;unfold lo at this;omega
def eu (s:AH) (i d:Nat):Int:=if i+d<s.length then lt s (i+d)-lo s+1 else 0
theorem bEn (h:i<s.length):lt s i∈s:=by
 unfold lt;rw[af,av h];exact ky _
theorem rX (h:i+d<s.length):0<eu s i d:=by
 have:=aSf (bEn h);unfold eu;rw[di h];omega
theorem jA (h:s.length<=i+d):eu s i d=0:=by unfold eu;rw[df G]
theorem wB (s:AH) (i b d:Nat):eu s (i+b) d=eu s i (b+d):=by unfold eu;rw[qi]
def tF (s:AH) (i h:Nat):AH:=(s.drop i).take h
theorem YX (hd:d<h):pad (lo s) (tF s i h) d=eu s i d:=by
 unfold pad eu tF;rw[ax,bn];by_cases c:i+d<s.length
 ·rw[di G,di c,lt_take hd,iV]
 ·rw[df G,df c]
theorem aKx {H:Nat} {U U' V V':Nat->Int} (h1: ∀i,i<H->U i=U' i) (h2: ∀i,i<H->V i=V' i):LtH H U V↔LtH H U' V':=by
 constructor
 ·rintro ⟨k,hk,a,b⟩;exact⟨k,hk,λi hi=>by rw[<-h1 i G,<-h2 i G];exact a i hi,by rw[<-h1 k hk,<-h2 k hk];exact b⟩
 ·rintro ⟨k,hk,a,b⟩;exact⟨k,hk,λi hi=>by rw[h1 i G,h2 i G];exact a i hi,by rw[h1 k hk,h2 k hk];exact b⟩
theorem wH (s:AH) (i k h:Nat):cmpL (tF s i h) (tF s k h)<0↔LtH h (eu s i) (eu s k):=by
 have hm: ∀j,∀x∈tF s j h,lo s<=x:=λj x hx=>aSf (ng (ll hx));rw[ZJ (lo s) _ _ h (by unfold tF;rw[ax];omega) (by unfold tF;rw[ax];omega) (hm i) (hm k)];exact aKx (λd hd=>YX hd) λd hd=>YX hd
theorem aYx {U V:Nat->Int} (hb:b<=n):LtH (n+b) U V↔LtH n U V\/EqH n U V/\LtH n (λi=>U (b+i)) (λi=>V (b+i)):=by
 constructor
 ·rintro ⟨k,hk,h1,h2⟩;rcases gu k n with a|a
  ·exact .inl ⟨k,a,h1,h2⟩
  ·refine .inr ⟨λi hi=>h1 i G,k-b,G,λi hi=>h1 (b+i) G,?_⟩;show U (b+(k-b))<V (b+(k-b));rw[show b+(k-b)=k by omega];exact h2
 ·rintro (h|⟨e,k,hk,h1,h2⟩)
  ·exact h.mono G
  ·refine ⟨b+k,G,λi hi=> ?_,h2⟩;rcases gu i n with a|a
   ·exact e i a
   ·have:=h1 (i-b) G;simp only at this;rwa[show b+(i-b)=i by omega] at this
theorem aZp {U V:Nat->Int} (hb:b<=n):EqH (n+b) U V↔EqH n U V/\EqH n (λi=>U (b+i)) (λi=>V (b+i)):=by
 constructor
 ·exact λe=>⟨λi hi=>e i G,λi hi=>e (b+i) G⟩
 ·rintro ⟨e,f⟩ i hi;rcases gu i n with a|a
  ·exact e i a
  ·have:=f (i-b) G;simp only at this;rwa[show b+(i-b)=i by omega] at this
def rkS (s:AH) (h i:Nat):Nat:=(List.range s.length).countP λk=>decide (cmpL (tF s k h) (tF s i h)<0)
theorem rZ {α:Type} {p q:α->Bool}: ∀ {l:List α},(∀x∈l,p x=true->q x=true)->(∃x∈l,p x=false/\q x=true)->l.countP p<l.countP q
 |[],_,h=>by obtain⟨x,hx,_⟩:=h;cases hx
 | a::l,h,hx=>by
  have hl:l.countP p<=l.countP q:=En λx hx=>h x (fw _ hx);obtain⟨x,hm,h1,h2⟩:=hx;rw[List.countP_cons,List.countP_cons];rcases iw.1 hm with rfl|hm
  ·rw[h1,h2];simp;omega
  ·have ih:=rZ (λy hy=>h y (fw _ hy)) ⟨x,hm,h1,h2⟩;have ha:=h a cD;cases hp:p a with
   |false=>cases q a<;>simp<;>omega
   |true=>rw[ha hp];simp;omega
theorem vJ (hi:i<s.length):rkS s h i<rkS s h k↔LtH h (eu s i) (eu s k):=by
 constructor
 ·intro hr;rcases tri h (eu s i) (eu s k) with a|a|a
  ·exact a
  ·exfalso
   have:rkS s h k<=rkS s h i:=En λx _ hx=>by
    rw[iv,wH] at hx ⊢;exact hx.eq_right a.symm
   omega
  ·exfalso
   have:rkS s h k<=rkS s h i:=En λx _ hx=>by
    rw[iv,wH] at hx ⊢;exact hx.trans a
   omega
 ·intro hl;refine rZ (λx _ hx=> ?_) ⟨i,jm.2 hi,?_,?_⟩
  ·rw [iv,wH] at hx ⊢;exact hx.trans hl
  ·rw [uk,wH];exact λh=>h.asymm h
  ·rw [iv,wH];exact hl
theorem aFr (hi:i<s.length) (hk:k<s.length):rkS s h i=rkS s h k↔EqH h (eu s i) (eu s k):=by
 constructor
 ·intro he;rcases tri h (eu s i) (eu s k) with a|a|a
  ·have:=(vJ hi).2 a;omega
  ·exact a
  ·have:=(vJ hk).2 a;omega
 ·intro he;rcases xe (rkS s h i) (rkS s h k) with a|a|a
  ·exact absurd he ((vJ hi).1 a).not_eq
  ·exact a
  ·exact absurd he.symm ((vJ hk).1 a).not_eq
def sJ (s:AH) (n i:Nat):Nat:=if i<s.length then rkS s n i+1 else 0
theorem AA (hn:0<n):sJ s n i<sJ s n k↔LtH n (eu s i) (eu s k):=by
 unfold sJ;by_cases hi:i<s.length
 ·by_cases hk:k<s.length
  ·rw[di hi,di hk,<-vJ hi];omega
  ·rw [di hi,df hk];refine⟨λh=>G,?_⟩;rintro⟨d,_,_,h2⟩;rw[jA (s:=s) (i:=k) G] at h2;rcases gu (i+d) s.length with a|a
   ·have:=rX a;omega
   ·rw[jA a] at h2;omega
 ·by_cases hk:k<s.length
  ·rw [df hi,di hk];refine⟨λ_=>⟨0,hn,λd hd=>G,?_⟩,λ_=>G⟩;rw[jA G];exact rX G
  ·rw [df hi,df hk];refine⟨λh=>G,?_⟩;rintro⟨d,_,_,h2⟩;rw[jA (s:=s) (i:=k) G,jA G] at h2;omega
theorem aXr (hn:0<n):sJ s n i=sJ s n k↔EqH n (eu s i) (eu s k):=by
 constructor
 ·intro he;rcases tri n (eu s i) (eu s k) with a|a|a
  ·have:=(AA hn).2 a;omega
  ·exact a
  ·have:=(AA hn).2 a;omega
 ·intro he;rcases xe (sJ s n i) (sJ s n k) with a|a|a
  ·exact absurd he ((AA hn).1 a).not_eq
  ·exact a
  ·exact absurd he.symm ((AA hn).1 a).not_eq
theorem aBr (hn:0<n) (hb:b<=n) (hi:i<s.length) (hk:k<s.length):rkS s (n+b) i<rkS s (n+b) k↔rkS s n i<rkS s n k\/rkS s n i=rkS s n k/\sJ s n (i+b)<sJ s n (k+b):=by
 rw[vJ hi,aYx hb,vJ hi,aFr hi hk,AA hn];have e: ∀j,eu s (j+b)=λd=>eu s j (b+d):=λj=>funext λd=>wB s j b d;rw[e,e]
theorem JO (hn:0<n) (hb:b<=n) (hi:i<s.length) (hk:k<s.length):rkS s (n+b) i=rkS s (n+b) k↔rkS s n i=rkS s n k/\sJ s n (i+b)=sJ s n (k+b):=by
 rw[aFr hi hk,aZp hb,aFr hi hk,aXr hn];have e: ∀j,eu s (j+b)=λd=>eu s j (b+d):=λj=>funext λd=>wB s j b d;rw[e,e]
theorem bDo {i:Nat} {o:List Nat} (hp:o.Perm (List.range s.length)) (hs:o.Pairwise λx y=>rkS s h x<=rkS s h y) (hi:i<o.length) (Ps: ∀(hz:0<i),rkS s h (o[i-1]' G)≠rkS s h o[i]):rkS s h o[i]=i:=by
 have hm: ∀x∈o,x<s.length:=λx hx=>jm.1 (hp.subset hx)
 have e:rkS s h o[i]=o.countP λk=>decide (rkS s h k<rkS s h o[i]):=by
  have e1:rkS s h o[i]=o.countP λk=>decide (cmpL (tF s k h) (tF s o[i] h)<0):=by
   unfold rkS;rw[<-hp.countP_eq]
  rw[e1];refine Hu λx hx=> ?_;rw[iv,iv,wH,<-vJ (hm x hx),<-e1]
 rw[e];have hsplit:o=o.take i++o.drop i:=(ik i o).symm
 have h1:(o.take i).countP (λk=>decide (rkS s h k<rkS s h o[i]))=i:=by
  have:(o.take i).length=i:=by rw[ax];omega
  conv=>rhs;rw[<-this]
  rw[List.countP_eq_length];intro x hx;rw[iv];obtain⟨j,hj,rfl⟩:=ic.1 hx;rw[ax] at hj;rw[ym];have hz:0<i:=G
  have hprev:=Ps hz;have mw:rkS s h (o[i-1]' G)<=rkS s h o[i]:=dz.1 hs (i-1) i G hi G;rcases gu j (i-1) with a|a
  ·have:=dz.1 hs j (i-1) G G a;omega
  ·have:j=i-1:=G
   subst this;omega
 have h2:(o.drop i).countP (λk=>decide (rkS s h k<rkS s h o[i]))=0:=by
  rw[Bz];intro x hx;rw[iv];obtain⟨j,hj,rfl⟩:=ic.1 hx;rw[bn] at hj;rw[Dq];rcases fe j with z|z
  ·subst z;simp
  ·have:=dz.1 hs i (i+j) hi G G;omega
 have h3:(o.take i++o.drop i).countP (λk=>decide (rkS s h k<rkS s h o[i]))=i:=by rw[List.countP_append,h1,h2,qf]
 rwa[ik] at h3
theorem FE {w:Int} {j:Nat} {t:Int × Int}:t∈turnsOf w j↔t.1=w/\0<=t.2/\t.2<j:=by
 unfold turnsOf;rw[gz];constructor
 ·rintro ⟨i,hi,rfl⟩;rw[jm] at hi;exact⟨rfl,by simp only;omega,by simp only;omega⟩
 ·rintro ⟨rfl,h1,h2⟩;refine⟨t.2.toNat,jm.2 G,?_⟩;rw[lc h1]
theorem DX {ws:AD} {t:Int × Int}: ∀ {k:Nat},t∈iD ws k↔(0<=t.1/\t.1<k)/\0<=t.2/\t.2<(rdl ws t.1).length
 |0=>by
  constructor
  ·intro h;cases h
  ·rintro⟨h,_⟩;omega
 | k+1=>by
  show t∈iD ws k++turnsOf k (rdl ws k).length↔_;rw[fo,DX,FE];constructor
  ·rintro (⟨h1,h2⟩|⟨h1,h2,h3⟩)
   ·exact⟨⟨h1.1,G⟩,h2⟩
   ·rw[h1];exact⟨⟨G,G⟩,h2,h3⟩
  ·rintro ⟨h1,h2,h3⟩;by_cases e:t.1=k
   ·exact .inr ⟨e,h2,by rw[e] at h3;exact h3⟩
   ·exact .inl ⟨⟨h1.1,G⟩,h2,h3⟩
theorem uF {ws:AD} {t:Int × Int}:t∈iD ws ws.length↔TV ws t:=by
 rw[DX];unfold TV;constructor
 ·rintro⟨⟨a,b⟩,c,d⟩;exact⟨a,b,c,d⟩
 ·rintro⟨a,b,c,d⟩;exact⟨⟨a,b⟩,c,d⟩
theorem NI (w:Int) (j:Nat):(turnsOf w j).Nodup:=by
 unfold turnsOf;refine ib.2 ((vz (n:=j)).imp λ{a b} h e=>h ?_);simp only[zz,zy] at e;omega
theorem vC (ws:AD): ∀k,(iD ws k).Nodup
 |0=> .nil
 |k+1=>by
  refine xc.2 ⟨vC ws k,NI _ _,λa ha b hb e=> ?_⟩;subst e;have h1:=(DX.1 ha).1;have h2:=(FE.1 hb).1;omega
theorem PS {ws:AD} {i j:Nat} (h:i<=j):nT ws i<=nT ws j:=by
 unfold nT;obtain⟨d,rfl⟩: ∃d,j=i+d:=⟨j-i,G⟩;rw[Iq,lu,ai];omega
theorem WN {ws:AD} {k:Nat} {i:Int} (h0:0<=i) (h:i<k):rd (rT ws k) i=nT ws i.toNat:=by
 have hi:i.toNat<k:=G
 simp[rd,rT,af,hi]
theorem aXy {ws:AD} {w j:Int} (h0:0<=w) (h1:w<ws.length) (h2:0<=j) (h3:j<(rdl ws w).length):rd ws.flatten (nT ws w.toNat+j)=rd (rdl ws w) j:=by
 have e:ws.flatten=(ws.take w.toNat).flatten++(ws.drop w.toNat).flatten:=by
  rw[<-lu,ik]
 rw[e,aQl h0 h1,mh];unfold rd;rw[af,jh (by unfold nT;omega),jf (by unfold nT;omega),af];congr 2;unfold nT;omega
theorem TB {ws:AD} {t:Int × Int} (ht:TV ws t):iG (rT ws ws.length) t=nT ws t.1.toNat+t.2:=by
 unfold iG;rw[WN ht.1 ht.2.1]
theorem aQw {ws:AD} {t u:Int × Int} (ht:TV ws t) (hu:TV ws u) (h:iG (rT ws ws.length) t=iG (rT ws ws.length) u):t=u:=by
 rw[TB ht,TB hu] at h;obtain⟨a1,a2,a3,a4⟩:=ht;obtain⟨b1,b2,b3,b4⟩:=hu;have o1:=lW a1 a2;have o2:=lW b1 b2
 have e:t.1=u.1:=by
  rcases je t.1 u.1 with x|x|x
  ·have:=PS (ws:=ws) (show(t.1+1).toNat<=u.1.toNat by omega);omega
  ·exact x
  ·have:=PS (ws:=ws) (show(u.1+1).toNat<=t.1.toNat by omega);omega
 rw[e] at h;exact Prod.ext e G
theorem bAt {ws:AD} (hN:ws.flatten.length<=1000000) {t:Int × Int} (ht:TV ws t):TOk ws (rT ws ws.length) ws.flatten.length t:=by
 obtain⟨a1,a2,a3,a4⟩:=ht;have o1:=lW a1 a2;have o2:=aGl ws (t.1+1).toNat;have e:=WN (ws:=ws) a1 a2;have hb:=RG ws ws.length;refine⟨⟨a1,a2,G⟩,⟨a3,a4,G⟩,G,?_⟩;rw[e];omega
theorem aPu (ws:AD):RK ws (rT ws ws.length) 1 ws.flatten:=by
 intro t u ht hu
 have one: ∀t,TV ws t->rd ws.flatten (iG (rT ws ws.length) t)=tw ws t 0:=by
  intro t ht;rw[TB ht,aXy ht.1 ht.2.1 ht.2.2.1 ht.2.2.2];obtain⟨a1,a2,a3,a4⟩:=ht;unfold tw rd;rw[qf,mf G]
 rw[one t ht,one u hu];constructor
 ·constructor
  ·exact λh=>⟨0,G,λi hi=>G,h⟩
  ·rintro ⟨k,hk,_,h⟩;obtain rfl:k=0:=G
   exact h
 ·constructor
  ·intro h i hi;obtain rfl:i=0:=G
   exact h
  ·exact λh=>h 0 G
theorem aOq {ws:AD} (t:Int × Int):Per (tw ws t) (rdl ws t.1).length:=by
 intro i;unfold tw;rw[<-qi,Hz]
def pO (ws:AD) (t u:Int × Int):Prop:=Lt (tw ws t) (tw ws u)\/(∀i,tw ws t i=tw ws u i)/\ltI t u
theorem aRe {ws:AD} {M:Nat} {t u:Int × Int} (hM:EqH M (tw ws t) (tw ws u)-> ∀i,tw ws t i=tw ws u i):aRh ws M t u↔pO ws t u:=by
 unfold aRh pO;constructor
 ·rintro (⟨k,_,h1,h2⟩|⟨e,h⟩)
  ·exact .inl ⟨k,h1,h2⟩
  ·exact .inr ⟨hM e,h⟩
 ·rintro (⟨k,h1,h2⟩|⟨e,h⟩)
  ·rcases tri M (tw ws t) (tw ws u) with a|a|⟨m,_,g1,g2⟩
   ·exact .inl a
   ·have:=hM a k;omega
   ·exfalso;by_cases x:k<m
    ·have:=g1 k x;omega
    ·by_cases y:m<k
     ·have:=h1 m y;omega
     ·have:k=m:=G
      subst this;omega
  ·exact .inr ⟨λi _=>e i,h⟩
theorem YI {ws:AD} {M:Nat} {t u:Int × Int} (ht:TV ws t) (hu:TV ws u) (hM:(rdl ws t.1).length+(rdl ws u.1).length<=M) (h:EqH M (tw ws t) (tw ws u)): ∀i,tw ws t i=tw ws u i:=by
 obtain⟨a1,a2,a3,a4⟩:=ht;obtain⟨b1,b2,b3,b4⟩:=hu;exact agree G G (aOq t) (aOq u) λi hi=>h i G
theorem YH {ws:AD} {h:Int} (h0:0<h) (ff: ∀t u,TV ws t->TV ws u->EqH (mW h) (tw ws t) (tw ws u)->EqH (gI h) (tw ws t) (tw ws u)) {t u:Int × Int} (ht:TV ws t) (hu:TV ws u) (he:EqH (mW h) (tw ws t) (tw ws u)): ∀i,tw ws t i=tw ws u i:=by
 have e1:mW h=h.toNat:=by unfold mW;omega
 have e2:gI h=h.toNat+h.toNat:=by unfold gI;rw[df G];omega
 rw[e1,e2] at ff;rw[e1] at he;intro i
 induction i using Nat.strongRecOn generalizing t u with
 | _ i ih=>
  by_cases hi:i<h.toNat
  ·exact he i hi
  ·have h2:=(aHe.1 (ff t u ht hu he)).2;have f1:(λi=>tw ws t (i+h.toNat))=tw ws (sh ws t h):=funext λi=>(OL ht G i).symm;have f2:(λi=>tw ws u (i+h.toNat))=tw ws (sh ws u h):=funext λi=>(OL hu G i).symm;rw[f1,f2] at h2;have:=ih (i-h.toNat) G (aFm ht) (aFm hu) h2;rw[OL ht G,OL hu G,qx G] at this;exact this
theorem dF {l:AH} {j:Int} (h0:0<=j) (h:j<l.length):l.take (j+1).toNat=l.take j.toNat++[rd l j]:=by
 have hl:j.toNat<l.length:=G
 rw[show(j+1).toNat=j.toNat+1 by omega,qc,av hl];simp[rd,af,av hl]
theorem aYz (t u:Int × Int):ltI t u\/t=u\/ltI u t:=by
 unfold ltI;rcases je t.1 u.1 with a|a|a
 ·exact .inl (.inl a)
 ·rcases je t.2 u.2 with b|b|b
  ·exact .inl (.inr ⟨a,b⟩)
  ·exact .inr (.inl (Prod.ext a b))
  ·exact .inr (.inr (.inr ⟨a.symm,b⟩))
 ·exact .inr (.inr (.inl a))
theorem Sorted.toO {ws:AD} {M:Nat} {l:AE} (s:Sorted ws M l) (hM: ∀t u,TV ws t->TV ws u->EqH M (tw ws t) (tw ws u)-> ∀i,tw ws t i=tw ws u i):l.Pairwise (pO ws):=by
 refine(s.pw.and s.nodup).imp_of_mem λ{x y} hx hy h=> ?_;have Mz:=aRe (hM x y (s.tv x hx) (s.tv y hy));rw[<-Mz];rcases tri M (tw ws x) (tw ws y) with a|a|a
 ·exact .inl a
 ·rcases aYz x y with b|b|b
  ·exact .inr ⟨a,b⟩
  ·exact absurd b h.2
  ·exact absurd (.inr ⟨a.symm,b⟩) h.1
 ·exact absurd (.inl a) h.1
theorem stay {ws:AD} {bs rs:AH} {h w:Int} {l lo:AE} (h0:0<h) (hr:RK ws bs (mW h) rs) (s:Sorted ws (gI h) l) (gs: ∀t,TV ws t->t∈l) (hp:l.Perm lo) (st:Steps bs rs lo w) (hw:iK ws bs rs h l (l.length-1)=w):l.Pairwise (pO ws):=by
 have Qq:mW h<=gI h:=by unfold mW gI;rw[df G];omega
 refine s.toO λt u ht hu e=>YH h0 (λt u ht hu e=> ?_) ht hu (e.mono Qq);obtain⟨i,hi,rfl⟩:=ic.1 (gs t ht);obtain⟨j,hj,rfl⟩:=ic.1 (gs u hu);rw[<-oH hi,<-oH hj] at e ⊢;exact aYo h0 hr s hp st hw hi hj e
theorem VO {l:AE} {j:Int} (h0:0<=j) (h:j<l.length):l.take (j+1).toNat=l.take j.toNat++[rdp l j]:=by
 have hl:j.toNat<l.length:=G
 rw[show(j+1).toNat=j.toNat+1 by omega,qc,av hl];simp[rdp,af,av hl]
theorem DV {α:Type} {r:α->α->Prop} (Ne: ∀x y,r x y-> ¬r y x): ∀ {a b:List α},a.Perm b->a.Pairwise r->b.Pairwise r->a=b
 |[],b,h,_,_=>(List.nil_perm.1 h).symm
 |x::a,[],h,_,_=>absurd h.symm cD
 | x::a,y::b,h,ha,hb=>by
  have e:x=y:=by
   rcases iw.1 (h.mem_iff.1 (.head _)) with e|e
   ·exact e
   ·have h1:=(il.1 hb).1 x e;rcases iw.1 (h.mem_iff.2 (.head _)) with e2|e2
    ·exact e2.symm
    ·exact absurd h1 (Ne _ _ ((il.1 ha).1 y e2))
  subst e;rw[DV Ne ((List.perm_cons x).1 h) (il.1 ha).2 (il.1 hb).2]
end Go.Pure
namespace Go.Pure
open Go Go.Eng
end Go.Pure
namespace Go.Pure
open Go Go.Eng
variable {ws:AD}
theorem Lt.of_H {H:Nat} {U V:Nat->Int} (h:LtH H U V):Lt U V:=by
 obtain⟨k,_,r⟩:=h;exact⟨k,r⟩
theorem yT (U V:Nat->Int):Lt U V\/(∀i,U i=V i)\/Lt V U:=by
 by_cases h: ∀i,U i=V i
 ·exact .inr (.inl h)
 ·obtain ⟨k,hk⟩:=Fh.1 h;rcases tri (k+1) U V with a|a|a
  ·exact .inl (Lt.of_H a)
  ·exact absurd (a k G) hk
  ·exact .inr (.inr (Lt.of_H a))
theorem Lt.asymm {U V:Nat->Int} (h:Lt U V): ¬Lt V U:=by
 obtain⟨k,h1,hl⟩:=h;rintro⟨m,h2,Ra⟩;by_cases a:k<m
 ·have:=h2 k a;omega
 ·by_cases b:m<k
  ·have:=h1 m b;omega
  ·have:k=m:=G
   subst this;omega
theorem Lt.not_eq {U V:Nat->Int} (h:Lt U V): ¬ ∀i,U i=V i:=λe=>by
 obtain⟨k,_,hl⟩:=h;have:=e k;omega
theorem aCg (t u:Int × Int) (h:pO ws t u): ¬pO ws u t:=by
 rcases h with h|⟨e,h⟩
 ·rintro (g|⟨e,g⟩)
  ·exact h.asymm g
  ·exact h.not_eq λi=>(e i).symm
 ·rintro (g|⟨e',g⟩)
  ·exact g.not_eq λi=>(e i).symm
  ·unfold ltI at h g;omega
theorem aCf {t u v:Int × Int} (h:pO ws t u) (g:pO ws u v):pO ws t v:=by
 rcases h with⟨k,h1,hl⟩|⟨e,h⟩
 ·rcases g with g|⟨e',_⟩
  ·exact .inl (Lt.trans ⟨k,h1,hl⟩ g)
  ·exact .inl ⟨k,λi hi=>(h1 i hi).trans (e' i),by rw[<-e' k];exact hl⟩
 ·rcases g with⟨k,h1,hl⟩|⟨e',g⟩
  ·exact .inl ⟨k,λi hi=>(e i).trans (h1 i hi),by rw[e k];exact hl⟩
  ·exact .inr ⟨λi=>(e i).trans (e' i),by unfold ltI at*;omega⟩
variable {L s:AH} {k:Int} {ws:AD} {l:AE}
def ps (L:AH) (k:Int):Int:=(L.take k.toNat).sum
theorem mP (h0:0<=k) (h:k<L.length):ps L (k+1)=ps L k+rd L k:=by
 unfold ps;rw[dF h0 h,Cn];simp
theorem aCa (h:L.length<=k):ps L k=L.sum:=by
 unfold ps;rw[bi G]
def iB (s L:AH) (k:Int):AD:=(List.range k.toNat).map λi:Nat=>(s.drop (ps L i).toNat).take (rd L i).toNat
theorem EP (h0:0<=k):iB s L (k+1)=iB s L k++[(s.drop (ps L k).toNat).take (rd L k).toNat]:=by
 unfold iB;rw[show(k+1).toNat=k.toNat+1 by omega,zk,jc];simp only[jq,qo];rw[show((k.toNat:Nat):Int)=k by omega]
theorem tT (s L:AH) (k:Int):(iB s L k).length=k.toNat:=by simp[iB]
theorem GQ: ∀ {L:AH},(∀x∈L,0<x)->(L.length:Int)<=L.sum
 |[],_=>cD
 |x::L,h=>by
  have a:=h x cD;have b:=GQ (L:=L) λy hy=>h y (fw _ hy);simp only[dm,ug];omega
theorem VR {L:AH} (h: ∀x∈L,0<x) (k:Nat):(L.take k).sum<=L.sum:=by
 have e:L.sum=(L.take k).sum+(L.drop k).sum:=by rw[<-Cn,ik]
 have:=GQ (L:=L.drop k) λy hy=>h y (ng hy);omega
theorem PR {L:AH} (h: ∀x∈L,0<x) (k:Int):0<=ps L k:=by
 have:=GQ (L:=L.take k.toNat) λy hy=>h y (ll hy);unfold ps;omega
theorem bF (h0:0<=k) (h:k<L.length):rd L k∈L:=by
 unfold rd;rw[af,av G];exact ky _
theorem EQ {s L:AH} (hL: ∀x∈L,0<x) (hs:L.sum<=s.length): ∀k:Nat,k<=L.length->(iB s L k).flatten=s.take (ps L k).toNat
 |0,_=>rfl
 |k+1,hk=>by
  have h0:(0:Int)<=(k:Int):=G
  have nv:(k:Int)<L.length:=G
  have hp:=PR hL k;have hr:=hL _ (bF h0 nv);have e:((k+1:Nat):Int)=(k:Int)+1:=G
  rw[e,EP h0,lu,EQ hL hs k G,mP h0 nv,show(ps L k+rd L k).toNat=(ps L k).toNat+(rd L k).toNat by omega,Iq];simp
theorem YB: ∀(f:Nat) (s:AH),∀x∈NT f s,0<x
 |0,s,x,h=>by cases h
 | f+1,s,x,h=>by
  unfold NT at h;cases s with
  |nil=>cases h
  | cons a s=>
   simp only[Dr,vg,xg] at h;rcases iw.1 h with rfl|h
   ·have:=qQ (s:=a::s) cD (a::s).length cD;omega
   ·exact YB f _ x h
theorem vZ (s:AH): ∀x∈fT s,0<x:=YB _ _
theorem YA: ∀(f:Nat) (s:AH),s.length<=f->(NT f s).sum=s.length
 |0,s,h=>by
  have:s=[]:=Ad.1 G;subst this;rfl
 | f+1,s,h=>by
  unfold NT;cases s with
  |nil=>rfl
  |cons a s=>
   simp only[Dr,vg,xg];have h1:=qQ (s:=a::s) cD (a::s).length cD;have h2:=PY (a::s) (a::s).length;rw[ug,YA f _ (by rw[bn];omega),bn];omega
theorem BR (s:AH):(fT s).sum=s.length:=YA _ _ (dn _)
theorem YD (s:AH):(fT s).length<=s.length:=by
 have:=GQ (vZ s);have:=BR s;omega
theorem bGr (s:AH) (k:Int):ps (fT s) k<=s.length:=by
 have:=VR (vZ s) k.toNat;have:=BR s;unfold ps;omega
def bws (s:AH):AD:=iB s (fT s) (fT s).length
theorem rA (s:AH):(bws s).flatten=s:=by
 unfold bws;rw[EQ (vZ s) (by rw[BR];omega) _ (dn _),aCa (lq _),BR];simp
theorem bAi (s:AH):(bws s).length=(fT s).length:=by unfold bws;rw[tT];omega
theorem IG (hp:l.Perm (iD ws ws.length)):l.length=ws.flatten.length:=by
 rw[hp.length_eq,DF ws _ (dn _)];unfold nT;rw[qa]
theorem IE (hp:l.Perm (iD (bws s) (bws s).length)):l.length=s.length:=by rw[IG hp,rA]
def lastB (ws:AD) (t:Int × Int):Int:=rd (rdl ws t.1) ((t.2+(rdl ws t.1).length-1)%((rdl ws t.1).length:Int))
theorem aLe {t:Int × Int} (h:TV ws t):lastB ws t∈ws.flatten:=by
 obtain⟨a,b,c,d⟩:=h;have hn:(0:Int)<(rdl ws t.1).length:=G
 have h1:=yw (t.2+(rdl ws t.1).length-1) (Int.ne_of_gt hn);have h2:=vk (t.2+(rdl ws t.1).length-1) hn;exact uf.2 ⟨_,aXv a b,bF h1 h2⟩
theorem lY (hp:l.Perm (iD ws ws.length)) (hb:aL ws.flatten):aL (l.map (lastB ws)):=by
 intro x hx;obtain⟨t,ht,rfl⟩:=gz.1 hx;exact hb _ (aLe (uF.1 (hp.subset ht)))
end Go.Pure
