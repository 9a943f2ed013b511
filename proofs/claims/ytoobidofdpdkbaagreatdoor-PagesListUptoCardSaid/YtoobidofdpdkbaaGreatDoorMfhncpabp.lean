/- Texts that go together: PgJ PgK SFilt EngAI SFiltR PgL PgM SLaw35 PgN PgO PgP PgQ PgR PgS PgT SDrop5 SRef19B PgU PgV PgY PgZ PgZA PgZB LbG LbH LbI LbJ LbK EngV SLaw38 LbL LbM LbN LbO PgX PgXB. -/
import Derived.Test.YtoobidofdpdkbaaGreatDoorRows
import Derived.Test.YtoobidofdpdkbaaGreatDoorMcacjffhi
import Derived.Test.YtoobidofdpdkbaaGreatDoorMcfcbgkko
import Derived.Test.YtoobidofdpdkbaaGreatDoorMminokdai
import Derived.Test.YtoobidofdpdkbaaGreatDoorMffkknffk
set_option linter.defProp false
set_option linter.unusedSimpArgs false
set_option linter.unusedVariables false
set_option maxRecDepth 20000
open Go.Proofs.Tryz (prog)
namespace Go.Proofs.YtoobidofdpdkbaaGreatDoor
section
open Eng Go.RowKit
def ptrE (b bt:Nat):Ent:=.cells b [.pointer (some ⟨bt,0,none⟩)] 113
theorem run_ptr {W:World}{b bt:Nat}(h:(ptrE b bt).is W):(mLoad 113 (.pointer (some ⟨b,0,none⟩))).run prog W=.ok (.value (.pointer (some ⟨bt,0,none⟩))) W:=run_load_cell nPtrTr (cells_cell (T:=113) h (i:=0) rfl)
theorem leaves1_plain:plainB prog 91=true:=by kernel_rfl
theorem Dk.root_eq (d:Dc):(Vl.get d.trailer Dk.rootK).getD Vl.ob0=Dk.root d:=rfl
theorem leaves1_calls (d:Dc)(vi vk vc:Value)(hd:Dk.Ok d)(h8:∀r,(Dk.follow d r).k≠8)(S:Nat→Prop)(w0:World)(L0:Loop)(lb df b2 bt mb b1:Nat)
  (hy:∀(x:Lf) (cv lv:Value) (cs:List Value) (n:Nat) (X:List Ent) (W:World),n≤100000→cv.oneCell'=true→OwnS S w0 W (.obj lb (lp L0 .ready none)::.obj df (.deferred (some []))::slfE b2 lv::lfRow lv n cs::X) →
   Yld prog lb [lfV x cv] W (fun r W'=>r=.bool true∧∃lv',OwnS S w0 W' (.obj lb (lp L0 .ready none)::.obj df (.deferred (some []))::slfE b2 lv'::lfRow lv' (n+1) (cs++lfC x cv)::X)))
  (lv:Value) (dcs:List Value) (N:Mem) (X:List Ent) (w:World) (K:Ending→World→Prop) (hda:DocAt N.A N.w d vi vk vc dcs) (ho:OwnS S w0 w (nodeL L0 lb df b2 bt mb d vi vk vc lv [] ⟨[],[]⟩ 0 N (ptrE b1 bt::X)))
  (hK:∀(N':Mem) (lv':Value) (cs':List Value) (W:World),N.le N'→LVs N'.A N'.w cs' (Pg.node d 24 (Pg.first d) [] ⟨[],[]⟩).1.pages →
   OwnS S w0 W (nodeL L0 lb df b2 bt mb d vi vk vc lv' cs' (Pg.node d 24 (Pg.first d) [] ⟨[],[]⟩).1 (Pg.node d 24 (Pg.first d) [] ⟨[],[]⟩).2 N' (ptrE b1 bt::X))→K (.returned (.tuple #[])) W) :
  Calls prog 91 #[.func (.yield lb) #[] #[],.pointer (some ⟨b1,0,none⟩)] w K:=by
 refine S_pages_tree_leaves_1_ok ?_;unfold S_pages_tree_leaves_1;have hfw:=Pg.first_wt hd;have hrw:=Pg.root_wt hd;have hrw0:(Dk.root d).wt≤1000000000:=by
  unfold Dk.root;have:=Vl.get_wt (o:=d.trailer) (key:=Dk.rootK);have:=hd.trailer;omega
 refine do_eq (run_ptr (ho.at_ 7 rfl)) |>.mpr ?_;rw[m_nilP,fa_pt0,fa_d1,tr_trl ho 4 rfl];refine c_mem ho 6 rfl (vget_ret d.trailer _ Dk.rootK N w (by have:=hd.trailer;omega) (ho.hasM 6 rfl) hda.trailer) ?_;rintro _ N1 w1 hle1 ⟨x,rfl,hx⟩ ho;rw[Dk.root_eq] at hx;obtain⟨xk,xc,xcs,rfl,hxa⟩:=hx.open;simp only[getV,ex];refine o_oba ho fun b3 w2 ho=>?_;refine ob_put 0 hxa.keys.one hxa.kids.one ho rfl fun w3 ho=>?_;have ho:OwnS S w0 w3 (obE b3 (Dk.root d) xk xc::nodeL L0 lb df b2 bt mb d vi vk vc lv [] ⟨[],[]⟩ 0 N1 (ptrE b1 bt::X)):=ho
 -- the tree's first node
 have fin:∀{W:World} {N2:Mem} {b5:Nat} {fk fc:Value},N.le N2→OV N2.A N2.w (obV (Pg.first d) fk fc) (Pg.first d)→OwnS S w0 W (obE b5 (Pg.first d) fk fc::obE b3 (Dk.root d) xk xc::nodeL L0 lb df b2 bt mb d vi vk vc lv [] ⟨[],[]⟩ 0 N2 (ptrE b1 bt::X)) →
   S_pages_tree_leaves_1_0 (.func (.yield lb) #[] #[]) (.pointer (some ⟨b1,0,none⟩)) (.pointer (some ⟨b5,0,none⟩)) W K:=by
  intro W N2 b5 fk fc hle hf ho;unfold S_pages_tree_leaves_1_0;refine do_eq (run_ptr (ho.at_ 9 rfl)) |>.mpr ?_;rw[ob_v ho 0 rfl];have ho2:OwnS S w0 W (nodeL L0 lb df b2 bt mb d vi vk vc lv [] ⟨[],[]⟩ 0 N2 ([obE b5 (Pg.first d) fk fc,obE b3 (Dk.root d) xk xc]++(ptrE b1 bt::X))):=
   OwnS.front (A:=[obE b5 (Pg.first d) fk fc,obE b3 (Dk.root d) xk xc]) (B:=nodeL L0 lb df b2 bt mb d vi vk vc lv [] ⟨[],[]⟩ 0 N2 []) (C:=ptrE b1 bt::X) ho
  refine c_any (node_any d vi vk vc hd h8 S w0 L0 lb df b2 bt mb hy 24 (Pg.first d) _ nilS [] ⟨[],[]⟩ lv [] dcs N2 _ W (fun e W=>∃(N3:Mem) (lv2:Value) (cs2:List Value),N2.le N3∧LVs N3.A N3.w cs2 (Pg.node d 24 (Pg.first d) [] ⟨[],[]⟩).1.pages∧e=.returned (.bool (decide ((Pg.node d 24 (Pg.first d) [] ⟨[],[]⟩).2=0))) ∧
   OwnS S w0 W (nodeL L0 lb df b2 bt mb d vi vk vc lv2 cs2 (Pg.node d 24 (Pg.first d) [] ⟨[],[]⟩).1 (Pg.node d 24 (Pg.first d) [] ⟨[],[]⟩).2 N3 ([obE b5 (Pg.first d) fk fc,obE b3 (Dk.root d) xk xc]++(ptrE b1 bt::X))))
   (by omega) rfl hfw hf (Chn.nil _ _) (hda.le hle) .nil ⟨by simp,by simp⟩ ho2 (fun N3 lv2 cs2 W a b c=>⟨N3,lv2,cs2,a,b,rfl,c⟩)) ?_
  rintro e w11 ⟨N3,lv2,cs2,hle3,hls,rfl,ho⟩;simp only[Cont];exact hK N3 lv2 cs2 w11 (hle.trans hle3) hls (ho.sub (.cons_cons _ (.cons_cons _ (.cons_cons _ (.cons_cons _ (.cons_cons _ (.cons_cons _ (.cons_cons _ (List.sublist_append_right _ (ptrE b1 bt::X))))))))))
 have st:∀{W:World} {PK:PKT} {N2:Mem} {b5:Nat} {y:Value},N.le N2→OV N2.A N2.w y (Pg.first d)→OwnS S w0 W (obE b5 ob0 nilS nilS::obE b3 (Dk.root d) xk xc::nodeL L0 lb df b2 bt mb d vi vk vc lv [] ⟨[],[]⟩ 0 N2 (ptrE b1 bt::X)) →
   DoX prog (mStore 26 (.pointer (some ⟨b5,0,none⟩)) y) W PK fun _ w=>S_pages_tree_leaves_1_0 (.func (.yield lb) #[] #[]) (.pointer (some ⟨b1,0,none⟩)) (.pointer (some ⟨b5,0,none⟩)) w K:=by
  intro W PK N2 b5 y hle hy ho;obtain⟨yk,yc,ycs,rfl,hya⟩:=hy.open;refine ob_put 0 hya.keys.one hya.kids.one ho rfl fun w6 ho=>?_;exact fin hle hy ho
 have ho:=ho.drew;refine⟨fun W=>(ptrE b1 bt).is W∧(trE35 bt d vi vk vc mb 0 0).is W∧(obE b3 (Dk.root d) xk xc).is W,⟨ho.at_ 8 rfl,ho.at_ 5 rfl,ho.at_ 0 rfl⟩,?_⟩;refine hd_do _ (fun W h=>run_ptr h.1) (hd_pure _ (fun _=>rfl) (hd_pure _ (fun _=>run_fa fo_pt0) (hd_do _ (fun W h=>run_trdoc h.2.1) (hd_do _ (fun W h=>run_obload h.2.2) ?_))));have ff:∀{W:World} {N2:Mem},N.le N2→N2.has W→∀{y:Value},OV N2.A N2.w y (Pg.root d)→RetM prog 85 #[y,.string ⟨Pg.pagesN.toArray⟩] N2 W (fun r N=>∃v',r=getV v' (Vl.get (Pg.root d) Pg.pagesN).isSome∧OV N.A N.w v' (Pg.first d)):=by
  intro W N2 hle hh y hy;exact vget_ret (Pg.root d) y Pg.pagesN N2 W (by omega) hh hy
 constructor
 ·refine c_mem ho 7 rfl (dfollow_ret d (Dk.root d) _ _ N1 _ hd hrw0 (ho.hasM 7 rfl) (hda.le hle1).dv hx) fun y N2 w4 hle2 hy ho=>?_;have ho:OwnS S w0 w4 (obE b3 (Dk.root d) xk xc::nodeL L0 lb df b2 bt mb d vi vk vc lv [] ⟨[],[]⟩ 0 N2 (ptrE b1 bt::X)):=ho;refine⟨⟨ho.at_ 8 rfl,ho.at_ 5 rfl,ho.at_ 0 rfl⟩,?_,?_⟩
  ·refine c_mem ho 7 rfl (ff (hle1.trans hle2) (ho.hasM 7 rfl) hy) ?_;rintro _ N3 w5 hle3 ⟨z,rfl,hz⟩ ho;refine⟨⟨ho.at_ 8 rfl,ho.at_ 5 rfl,ho.at_ 0 rfl⟩,?_⟩;refine hd_ext (hd_ext1 ?_);refine o_oba ho fun b5 w6 ho=>?_;exact⟨⟨ho.at_ 9 rfl,ho.at_ 6 rfl,ho.at_ 1 rfl⟩,st ((hle1.trans hle2).trans hle3) hz ho⟩
  ·refine o_oba ho fun b5 w6 ho=>?_;refine⟨⟨ho.at_ 9 rfl,ho.at_ 6 rfl,ho.at_ 1 rfl⟩,?_⟩;refine c_mem ho 8 rfl (ff (hle1.trans hle2) (ho.hasM 8 rfl) hy) ?_;rintro _ N3 w5 hle3 ⟨z,rfl,hz⟩ ho;refine⟨⟨ho.at_ 9 rfl,ho.at_ 6 rfl,ho.at_ 1 rfl⟩,?_⟩;refine hd_ext (hd_ext1 ?_);exact st ((hle1.trans hle2).trans hle3) hz ho
 ·refine o_oba ho fun b5 w6 ho=>?_;refine⟨⟨ho.at_ 9 rfl,ho.at_ 6 rfl,ho.at_ 1 rfl⟩,?_⟩;refine c_mem ho 8 rfl (dfollow_ret d (Dk.root d) _ _ N1 _ hd hrw0 (ho.hasM 8 rfl) (hda.le hle1).dv hx) fun y N2 w4 hle2 hy ho=>?_;refine⟨⟨ho.at_ 9 rfl,ho.at_ 6 rfl,ho.at_ 1 rfl⟩,?_⟩;refine c_mem ho 8 rfl (ff (hle1.trans hle2) (ho.hasM 8 rfl) hy) ?_;rintro _ N3 w5 hle3 ⟨z,rfl,hz⟩ ho;refine⟨⟨ho.at_ 9 rfl,ho.at_ 6 rfl,ho.at_ 1 rfl⟩,?_⟩;refine hd_ext (hd_ext1 ?_);exact st ((hle1.trans hle2).trans hle3) hz ho
theorem Pg.no_ref {d:Dc}(h:Dk.check d=0)(r:Ob):(Dk.follow d r).k≠8:=by
 unfold Dk.follow;split
 ·rename_i h8;exact h8
 ·unfold Dk.pick;split
  ·simp[Vl.ob0,Ob.k]
  ·rename_i i hi
   split
   ·simp[Vl.ob0,Ob.k]
   ·obtain⟨hm,_⟩:=Dk.find_mem hi;have:=(Dk.items_all (Dk.check_parts.1 h).1 i hm).2;unfold Dk.content at this;intro h8;split at this
    ·rename_i hc;exact hc this
    ·rw[if_pos (.inl h8)] at this;cases this
section
variable {w:World}{PK:PKT}{K:VWP}{S:Nat→Prop}{w0:World}{L:List Ent}
theorem o_lfs1 (x:Lf){v:Value}(h:v.oneCell'=true)(ho:OwnS S w0 w L)(k:∀b w',OwnS S w0 w' (lfE b x v::L)→K (.slice (some ⟨b,0,none⟩) 1 1) w'):DoX prog (mBuildS 72 1 #[(0,lfV x v)]) w PK K:=by
 cases v<;>first|(cases h;done)|exact o_new (fun b=>.slice (some ⟨b,0,none⟩) 1 1) (lfC x _) 76 (fun _=>by kernel_rfl) ho k
theorem o_apLf (i:Nat){v v2:Value}{n m:Nat}{xs news:List Value}{cb:Array Bool}(ho:OwnS S w0 w L)(hi:L[i]?=some (lfRow v n xs))(hs:Sl w v2 2 m news)(h1:∀u∈news,u.oneCell'=true)(hb:n+m≤1000000000000)
  (k:∀v' w',OwnS S w0 w' (L.set i (lfRow v' (n+m) (xs++news)))→K v' w'):DoX prog (mB .append #[72,72] 72 cb #[v,v2]) w PK K:=
 o_appendU i Tryz.underlying72 elLf (by decide) ho hi hs h1 (by omega) (by omega) k
end
theorem pall_ret (d:Dc)(dv:Value)(M:Mem)(w:World)(hd:Dk.Ok d)(hM:M.has w)(hdv:DV M.A M.w dv d) :
  RetM prog 35 #[dv] M w (fun r N=>∃v cs,r=errV v (Pg.leaves d).2∧SlA N.A N.w v 2 (Pg.leaves d).1.length cs∧LVs N.A N.w cs (Pg.leaves d).1):=by
 obtain⟨vi,tk,tc,dcs,rfl,hda⟩:=hdv;refine retM_of hM fun K hK=>S_pages_all_ok ?_;unfold S_pages_all;refine o_dcb d hda.items.one hda.trailer.oneK hda.trailer.oneC (OwnS.memS hM) fun b1 w1 ho=>?_;rw[dc_v ho 0 rfl];refine c_below ho (R:=fun v=>v=.int .i64 (Dk.check d)) (RetM.told (dcheck_ret d _ M w1 hd (ho.hasM 1 rfl) hda.dv)) ?_;rintro _ w2 rfl ho;rw[n_err];by_cases hc:Dk.check d=0
 case neg=>
  have hl:Pg.leaves d=([],Dk.check d):=by unfold Pg.leaves;rw[if_pos hc]
  simp only[hc,ne_eq,not_false_eq_true,decide_true,i_t];exact hK _ _ M _ 1 ho rfl M.le_refl ⟨nilS,[],by rw[hl];rfl,by rw[hl];exact SlA.nil _ _ _ _,by rw[hl];exact .nil⟩
 have hl:Pg.leaves d=if (Pg.node d 24 (Pg.first d) [] ⟨[],[]⟩).2≠0 then ([],(Pg.node d 24 (Pg.first d) [] ⟨[],[]⟩).2) else ((Pg.node d 24 (Pg.first d) [] ⟨[],[]⟩).1.pages,0):=by
  unfold Pg.leaves;rw[if_neg (show ¬Dk.check d≠0 by simp[hc])]
 simp only[hc,ne_eq,not_true,decide_false,i_f];rw[dc_v ho 0 rfl];refine o_setNew ho fun mb w3 ho=>?_;rw[m_tr hda.items.one hda.trailer.oneK hda.trailer.oneC];refine o_trb d hda.items.one hda.trailer.oneK hda.trailer.oneC ho fun bt w4 ho=>?_;refine o_new (fun b=>.pointer (some ⟨b,0,none⟩)) [.slice none 0 0] 72 (fun _=>by kernel_rfl) ho fun b6 w5 ho=>?_;have ho:OwnS M.A w w5 (slfE b6 nilS::trE35 bt d vi tk tc mb 0 0::.seti mb []::dcE b1 d vi tk tc::.mem M::[]):=ho
 -- the iterator
 refine c_any (S_pages_tree_leaves_ok (K:=RetK fun v W=>∃bp,v=.func (.func 91) #[] #[.pointer (some ⟨bp,0,none⟩)]∧OwnS M.A w W (ptrE bp bt::slfE b6 nilS::trE35 bt d vi tk tc mb 0 0::.seti mb []::dcE b1 d vi tk tc::.mem M::[])) ?_) ?_
 ·unfold S_pages_tree_leaves;refine o_new (fun b=>.pointer (some ⟨b,0,none⟩)) [.pointer (some ⟨bt,0,none⟩)] 113 (fun _=>by kernel_rfl) ho fun bp w6 ho=>?_;rw[m_func];exact retK ⟨bp,rfl,ho⟩
 rintro _ w6 ⟨v,rfl,bp,rfl,ho⟩;simp only[Cont];have ho:=ho.nilU 76 2;refine range ho leaves1_plain fun L0 df lb w7 ho hy=>?_;have ho2:OwnS M.A w w7 (nodeL L0 lb df b6 bt mb d vi tk tc nilS [] ⟨[],[]⟩ 0 M [ptrE bp bt,dcE b1 d vi tk tc]):=by
  refine ho.perm ?_;show List.Perm [_,_,lfRow nilS 0 [],ptrE bp bt,slfE b6 nilS,trE35 bt d vi tk tc mb 0 0,.seti mb [],dcE b1 d vi tk tc,.mem M] [_,_,slfE b6 nilS,lfRow nilS 0 [],trE35 bt d vi tk tc mb 0 0,.seti mb [],.mem M,ptrE bp bt,dcE b1 d vi tk tc];refine .cons _ (.cons _ ((List.perm_append_comm_assoc [lfRow nilS 0 [],ptrE bp bt] [slfE b6 nilS] [trE35 bt d vi tk tc mb 0 0,.seti mb [],dcE b1 d vi tk tc,.mem M]).trans (.cons _ (.cons _ ?_))));refine (List.perm_append_comm_assoc [ptrE bp bt] [trE35 bt d vi tk tc mb 0 0,.seti mb []] [dcE b1 d vi tk tc,.mem M]).trans (.cons _ (.cons _ ?_));exact List.perm_append_comm_assoc [ptrE bp bt,dcE b1 d vi tk tc] [.mem M] []
 refine leaves1_calls d vi tk tc hd (Pg.no_ref hc) M.A w L0 lb df b6 bt mb bp ?_ nilS dcs M [dcE b1 d vi tk tc] w7 _ hda ho2 ?_
 ·intro x cv lv cs n X W hn h1 ho;refine hy _ W _ (ho.at_ 0 rfl) rfl ?_;refine o_lfa ho fun b7 w8 ho=>?_;refine lf_put 0 h1 ho rfl fun w9 ho=>?_;refine o_beg 1 ho rfl fun W3 ho=>?_;rw[l_cell nSlLf (ho.cell 3 rfl 0 rfl),lf_v ho 0 rfl];refine o_lfs1 x h1 ho fun nb w10 ho=>?_;refine o_apLf 5 ho rfl (ho.sl 0 rfl 2 1 1 rfl) (lfC_one x h1) (by omega) fun v' w11 ho=>?_;refine o_store 4 ho rfl (by kernel_rfl) (urow_one (ho.at_ 5 rfl)) (by simp) fun w12 ho=>?_;refine o_end 2 ho rfl fun w13 ho=>?_;exact⟨rfl,v',ho.tail.tail⟩
 ·intro N' lv' cs' W hle hls ho;generalize Pg.node d 24 (Pg.first d) [] ⟨[],[]⟩=nd at *;refine⟨_,.ready,none,_,rfl,(by intro h;cases h),ho.at_ 0 rfl,List.mem_cons.2 (.inl rfl),?_⟩;have ho:OwnS M.A w (putO W lb (lp L0 .exhausted none)) (.obj df (.deferred (some []))::slfE b6 lv'::lfRow lv' nd.1.pages.length cs'::trE35 bt d vi tk tc mb nd.1.pages.length nd.2::.seti mb nd.1.met::.mem N'::[ptrE bp bt,dcE b1 d vi tk tc]):=
   (put_iter (o':=lp L0 .exhausted none) ho 0 rfl:OwnS M.A w (putO W lb (lp L0 .exhausted none)) (.obj lb (lp L0 .exhausted none)::_)).tail
  rw[m_nilP,fa_pt3,tr_e ho 3 rfl,n_err];by_cases he:nd.2=0
  ·rw[if_neg (by simp[he])] at hl;simp only[he,ne_eq,not_true,decide_false,i_f];rw[l_cell nSlLf (ho.cell 1 rfl 0 rfl)];refine leave1 0 ho rfl fun W4 ho=>?_;have ho:OwnS M.A w W4 (lfRow lv' nd.1.pages.length cs'::trE35 bt d vi tk tc mb nd.1.pages.length nd.2::.seti mb nd.1.met::.mem N'::[ptrE bp bt,dcE b1 d vi tk tc]):=ho.tail.tail;obtain⟨N2,hle2,hrow,ho⟩:=OwnS.freezeU ho 2 rfl;refine hK _ _ N2 _ 2 ho rfl (hle.trans hle2) ⟨lv',cs',by rw[hl];rfl,by rw[hl];exact hrow,by rw[hl];exact hls.le hle2⟩
  ·rw[if_pos he] at hl;simp only[he,ne_eq,not_false_eq_true,decide_true,i_t];refine quietC (fun W=>OwnS M.A w W (.obj df (.deferred (some []))::slfE b6 lv'::lfRow lv' nd.1.pages.length cs'::trE35 bt d vi tk tc mb nd.1.pages.length nd.2::.seti mb nd.1.met::.mem N'::[ptrE bp bt,dcE b1 d vi tk tc])) ho.drew ?_;refine q_do _ (fun _=>rfl) (q_do _ (fun _=>run_fa fo_pt3) (q_at (.int .i64 nd.2) (fun W h=>run_load_cell (by kernel_rfl) (h.cell 3 rfl 9 rfl)) ?_));intro W2 ho;refine leave1 0 ho rfl fun W4 ho=>?_;exact hK _ _ N' _ 5 ho rfl hle ⟨nilS,[],by rw[hl];rfl,by rw[hl];exact SlA.nil _ _ _ _,by rw[hl];exact .nil⟩
end
section
open Eng Go.RowKit
theorem leaf_at {M:Mem}{vi:Value}{l:List Lf}{cs:List Value}(hs:SlA M.A M.w vi 2 l.length cs)(hall:LVs M.A M.w cs l){i:Nat}(hi:i < l.length) :
  ∃(cv:Value) (p:Addr),Chn M.A M.w cv l[i].chain∧(∀W,(mIA 72 vi (.int .i64 (i:Int))).run prog W=.ok (.value (.pointer (some p))) W)∧∀W,M.has W→(mLoad 76 (.pointer (some p))).run prog W=.ok (.value (lfV l[i] cv)) W:=by
 obtain⟨b,off,cap,rfl,_⟩:=sl_open hs.1 (by omega);obtain⟨a,⟨cv,rfl,hc⟩,hget⟩:=Rws.get lfR_len i hi hall;refine⟨cv,⟨b,off+i*2,none⟩,hc,fun W=>?_,fun W hW=>?_⟩
 ·refine (run_ia Tryz.underlying72 szLf (by omega) (by omega)).trans ?_;rw[Int.toNat_natCast]
 ·obtain⟨b',off',cap',he,hcell⟩:=sl_open (hs.now hW) (by omega);cases he;refine run_load_at (AtV.agg aggLf (cs:=lfC l[i] cv) rfl fun j v hj=>?_);rw[Nat.add_assoc];exact hcell _ _ (hget j v hj)
theorem Pg.node_ch {d:Dc}(hd:Dk.Ok d):∀(f:Nat) (r:Ob) (ab:List Ob) (s:Pw),ab.length+f=24→(∀a∈ab,a.wt≤1000000000∧a.k≠8)→Pg.Bd s→(∀x∈s.pages,ChOk x.chain)→∀x∈(Pg.node d f r ab s).1.pages,ChOk x.chain:=by
 intro f
 induction f using Nat.strongRecOn with
|ind f ih=>
 intro r ab s hab ha hb hs;by_cases h:Pg.errN d f r s=0
 ·obtain⟨hbad,-,hml,hpl,g,hg,hn⟩:=Pg.node_go (ab:=ab) hb h;obtain⟨h8,h7,-⟩:=Pg.badN_ok hbad;have hw:=Pg.follow8_wt hd h8;have hch:∀a∈Dk.follow d r::ab,a.wt≤1000000000∧a.k≠8:=fun a hx=>by
   rcases List.mem_cons.1 hx with rfl|hx
   ·exact⟨hw,by omega⟩
   ·exact ha a hx
  rw[hn];split
  ·intro x hx;rcases List.mem_append.1 hx with hx|hx
   ·exact hs x hx
   ·have:x=⟨r.n,Dk.follow d r::ab⟩:=by simpa using hx
    rw[this];exact⟨by rw[List.length_cons];omega,fun o ho=>(hch o ho).1,fun o ho=>(hch o ho).2⟩
  ·have step:∀(l:List Ob) (s:Pw),Pg.Bd s→(∀x∈s.pages,ChOk x.chain)→∀x∈(Pg.foldE (fun k s=>Pg.node d g k (Dk.follow d r::ab) s) l s).1.pages,ChOk x.chain:=by
    intro l
    induction l with
   |nil=>intro s _ h;exact h
   |cons k l ihl=>
     intro s hbs hss;have h1:=ih g (by omega) k (Dk.follow d r::ab) s (by rw[List.length_cons];omega) hch hbs hss;have h2:=Pg.node_bd (d:=d) g k (Dk.follow d r::ab) s (by omega) hbs;rw[Pg.foldE];split
     ·exact h1
     ·exact ihl _ h2 h1
   exact step _ _ ⟨by simp;omega,hb.pages⟩ hs
 ·rw[Pg.node_err hb h (by omega)];exact hs
theorem Pg.leaves_ch {d:Dc}(hd:Dk.Ok d):(∀x∈(Pg.leaves d).1,ChOk x.chain)∧(Pg.leaves d).1.length≤2048:=by
 unfold Pg.leaves;split
 ·exact⟨fun x hx=>(by cases hx),by simp⟩
 split
 ·exact⟨fun x hx=>(by cases hx),by simp⟩
 ·exact⟨Pg.node_ch hd 24 _ [] ⟨[],[]⟩ rfl (fun a h=>by cases h) ⟨by simp,by simp⟩ (fun x hx=>by cases hx),(Pg.node_bd 24 _ [] ⟨[],[]⟩ (by omega) ⟨by simp,by simp⟩).pages⟩
theorem Pg.leaf_ok {d:Dc}(hd:Dk.Ok d){i:Nat}(hi:i < (Pg.leaves d).1.length):ChOk (Pg.leaves d).1[i].chain:=(Pg.leaves_ch hd).1 _ (List.getElem_mem hi)
theorem pcount_ret (d:Dc)(dv:Value)(M:Mem)(w:World)(hd:Dk.Ok d)(hM:M.has w)(hdv:DV M.A M.w dv d) :
  RetM prog 12 #[dv] M w (fun r N=>r=.tuple #[.int .i64 (Pg.leaves d).1.length,.int .i64 (Pg.leaves d).2]):=by
 obtain⟨vi,tk,tc,dcs,rfl,hda⟩:=hdv;refine retM_of hM fun K hK=>S_pages_Count_ok ?_;unfold S_pages_Count;refine o_dcb d hda.items.one hda.trailer.oneK hda.trailer.oneC (OwnS.memS hM) fun b1 w1 ho=>?_;rw[dc_v ho 0 rfl];refine c_mem ho 1 rfl (pall_ret d _ M w1 hd (ho.hasM 1 rfl) hda.dv) ?_;rintro _ N w2 hle ⟨v,cs,rfl,hs,hls⟩ ho;simp only[errV,ex];rw[sl_len Tryz.underlying72 (hs.now (ho.hasM 1 rfl))];exact hK _ _ N _ 1 ho rfl hle rfl
theorem pplace_ret (d:Dc)(num:Int)(dv:Value)(M:Mem)(w:World)(hd:Dk.Ok d)(hM:M.has w)(hdv:DV M.A M.w dv d) :
  RetM prog 14 #[dv,.int .i64 num] M w (fun r N=>r=.tuple #[.int .i64 (Pg.place d num).1,.bool (Pg.place d num).2]):=by
 obtain⟨vi,tk,tc,dcs,rfl,hda⟩:=hdv;refine retM_of hM fun K hK=>S_pages_Place_ok ?_;unfold S_pages_Place;refine o_dcb d hda.items.one hda.trailer.oneK hda.trailer.oneC (OwnS.memS hM) fun b1 w1 ho=>?_;rw[dc_v ho 0 rfl];refine c_mem ho 1 rfl (pall_ret d _ M w1 hd (ho.hasM 1 rfl) hda.dv) ?_;rintro _ N w2 hle ⟨v,cs,rfl,hs,hls⟩ ho;have hll:=(Pg.leaves_ch hd).2;simp only[errV,ex];rw[sl_len Tryz.underlying72 (hs.now (ho.hasM 1 rfl))];unfold Pg.place at hK;generalize (Pg.leaves d).1=l at *;refine loop (fun vs W=>∃i:Nat,vs=[.int .i64 i]∧i≤l.length∧Pg.placeG num 0 l=Pg.placeG num i (l.drop i)∧OwnS M.A w W [dcE b1 d vi tk tc,.mem N]) (fun vs _=>l.length - n0 vs) ⟨0,rfl,by omega,rfl,ho⟩ ?_;clear ho;rintro vs w3 ⟨i,rfl,hi,he,ho⟩ _;simp only[S_pages_Place_0,gd,rs];by_cases hlt:(i:Int) < (l.length:Int)
 ·have hi':i < l.length:=by omega
  simp only[hlt,decide_true,i_t];obtain⟨cv,p,hcv,r1,r2⟩:=leaf_at hs hls hi';refine do_eq (r1 w3) |>.mpr (do_eq (r2 w3 (ho.hasM 1 rfl)) |>.mpr ?_);refine o_lfa ho fun b9 w4 ho=>?_;refine lf_put 0 hcv.one ho rfl fun w5 ho=>?_;rw[fa_lf0,lf_num ho 0 rfl];simp only[rs];rw[List.drop_eq_getElem_cons hi',Pg.placeG] at he;by_cases hn:l[i].num=num
  ·rw[if_pos hn] at he;simp only[hn,decide_true,i_t];exact hK _ _ N _ 2 ho rfl hle (by rw[he])
  ·rw[if_neg hn] at he;simp only[hn,decide_false,i_f];rw[wrap64_id (by omega) (by omega)];exact nextX ⟨i+1,rfl,by omega,he,ho.tail⟩ (by simp[n0,RowKit.intOf];omega)
 ·simp only[hlt,decide_false,i_f];rw[List.drop_eq_nil_of_le (by omega),Pg.placeG] at he;exact hK _ _ N _ 1 ho rfl hle (by rw[he])
theorem pat_ret (d:Dc)(n:Int)(dv:Value)(M:Mem)(w:World)(hd:Dk.Ok d)(hM:M.has w)(hdv:DV M.A M.w dv d) :
  RetM prog 43 #[dv,.int .i64 n] M w (fun r N=>∃cv,r=errV (lfV (Pg.at_ d n).1 cv) (Pg.at_ d n).2∧Chn N.A N.w cv (Pg.at_ d n).1.chain):=by
 obtain⟨vi,tk,tc,dcs,rfl,hda⟩:=hdv;refine retM_of hM fun K hK=>S_pages_at_ok ?_;unfold S_pages_at;refine o_dcb d hda.items.one hda.trailer.oneK hda.trailer.oneC (OwnS.memS hM) fun b2 w1 ho=>?_;refine o_lfa ho fun b4 w2 ho=>?_;rw[dc_v ho 1 rfl];refine c_mem ho 2 rfl (pall_ret d _ M w2 hd (ho.hasM 2 rfl) hda.dv) ?_;rintro _ N w3 hle ⟨v,cs,rfl,hs,hls⟩ ho;have ho:OwnS M.A w w3 [lfE b4 Pg.lf0 nilS,dcE b2 d vi tk tc,.mem N]:=ho;have no:∀{e:Int},Pg.at_ d n=(Pg.lf0,e)→DoX prog (mBuild 76 #[]) w3 (Eng.pk K) (fun t W=>DoX prog (mStore 76 (.pointer (some ⟨b4,0,none⟩)) t) W (Eng.pk K) fun _ W=>RetX prog [.cell (.pointer (some ⟨b4,0,none⟩)) 76,.val (.int .i64 e)] W K):=by
  intro e he;rw[m_lf0];refine lf_put 0 rfl ho rfl fun w4 ho=>?_;exact ret_lf2 0 ho rfl (hK _ _ N _ 2 ho rfl hle ⟨nilS,by rw[he];rfl,by rw[he];exact Chn.nil _ _⟩)
 simp only[errV,ex,n_err];by_cases h1:(Pg.leaves d).2=0
 case neg=>
  simp only[h1,ne_eq,not_false_eq_true,decide_true,i_t];exact no (by unfold Pg.at_;rw[if_pos h1])
 simp only[h1,ne_eq,not_true,decide_false,rs];have ha:Pg.at_ d n=if n < 0∨((Pg.leaves d).1.length:Int)≤n then (Pg.lf0,8) else ((Pg.leaves d).1.getD n.toNat Pg.lf0,0):=by unfold Pg.at_;rw[if_neg (by simp[h1])]
 by_cases h2:n < 0
 ·simp only[h2,decide_true,rs,g_un];exact no (by rw[ha,if_pos (.inl h2)])
 simp only[h2,decide_false,rs];rw[sl_len Tryz.underlying72 (hs.now (ho.hasM 2 rfl))];simp only[rs];by_cases h3:((Pg.leaves d).1.length:Int)≤n
 ·simp only[h3,decide_true,rs];exact no (by rw[ha,if_pos (.inr h3)])
 simp only[h3,decide_false,rs];rw[if_neg (by omega)] at ha;have hi:n.toNat < (Pg.leaves d).1.length:=by omega
 obtain⟨cv,p,hcv,r1,r2⟩:=leaf_at hs hls hi;have hn:n=((n.toNat:Nat):Int):=by omega
 rw[List.getD_eq_getElem?_getD,List.getElem?_eq_getElem hi,Option.getD_some] at ha;rw[hn];refine do_eq (r1 w3) |>.mpr (do_eq (r2 w3 (ho.hasM 2 rfl)) |>.mpr ?_);refine lf_put 0 hcv.one ho rfl fun w4 ho=>?_;refine ret_lf2 0 ho rfl (hK _ _ N _ 2 ho rfl hle ⟨cv,by rw[ha];rfl,by rw[ha];exact hcv⟩)
theorem pget_ret (d:Dc)(n:Int)(dv:Value)(M:Mem)(w:World)(hd:Dk.Ok d)(hM:M.has w)(hdv:DV M.A M.w dv d) :
  RetM prog 20 #[dv,.int .i64 n] M w (fun r N=>∃v',r=errV v' (Pg.get d n).2∧PV N.A N.w v' (Pg.get d n).1):=by
 obtain⟨vi,tk,tc,dcs,rfl,hda⟩:=hdv;refine retM_of hM fun K hK=>S_pages_Get_ok ?_;unfold S_pages_Get;refine o_dcb d hda.items.one hda.trailer.oneK hda.trailer.oneC (OwnS.memS hM) fun b2 w1 ho=>?_;refine o_pga ho fun b4 w2 ho=>?_;rw[dc_v ho 1 rfl];refine c_mem ho 2 rfl (pat_ret d n _ M w2 hd (ho.hasM 2 rfl) hda.dv) ?_;rintro _ N w3 hle ⟨cv,rfl,hcv⟩ ho;simp only[errV,ex];refine o_lfa ho fun b6 w4 ho=>?_;refine lf_put 0 hcv.one ho rfl fun w5 ho=>?_;have ho:OwnS M.A w w5 [lfE b6 (Pg.at_ d n).1 cv,pgE b4 Pg.pge0 nilS nilS,dcE b2 d vi tk tc,.mem N]:=ho;rw[n_err];by_cases h1:(Pg.at_ d n).2=0
 case neg=>
  have hg:Pg.get d n=(Pg.pge0,(Pg.at_ d n).2):=by unfold Pg.get;rw[if_pos h1]
  simp only[h1,ne_eq,not_false_eq_true,decide_true,i_t];rw[m_pg0];refine pg_put 1 rfl rfl ho rfl fun w6 ho=>?_;exact ret_pg2 1 ho rfl (hK _ _ N _ 3 ho rfl hle ⟨_,by rw[hg];rfl,by rw[hg];exact pv0 N⟩)
 have hg:Pg.get d n=Pg.page d (Pg.at_ d n).1:=by unfold Pg.get;rw[if_neg (by simp[h1])]
 simp only[h1,ne_eq,not_true,decide_false,i_f];have hok:ChOk (Pg.at_ d n).1.chain:=by
  obtain⟨-,-,hn,hat⟩:=Pg.at_ok h1;rw[hat];exact Pg.leaf_ok hd hn
 rw[lf_v ho 0 rfl,dc_v ho 2 rfl];refine c_mem ho 3 rfl (ppage_ret d (Pg.at_ d n).1 _ cv N w5 hd hok (ho.hasM 3 rfl) (hda.le hle).dv hcv) ?_;rintro _ N2 w6 hle2 ⟨_,rfl,pk,pc,rfl,hp⟩ ho;simp only[errV,ex];refine pg_put 1 hp.oneK hp.oneC ho rfl fun w7 ho=>?_;exact ret_pg2 1 ho rfl (hK _ _ N2 _ 3 ho rfl (hle.trans hle2) ⟨_,by rw[hg];rfl,by rw[hg];exact⟨pk,pc,rfl,hp⟩⟩)
section
variable {w:World}{PK:PKT}{K:VWP}{S:Nat→Prop}{w0:World}{L:List Ent}
theorem o_pgs1 (p:Pge){vk vc:Value}(hk:vk.oneCell'=true)(hc:vc.oneCell'=true)(ho:OwnS S w0 w L)(k:∀b w',OwnS S w0 w' (pgE b p vk vc::L)→K (.slice (some ⟨b,0,none⟩) 1 1) w'):DoX prog (mBuildS 31 1 #[(0,pgV p vk vc)]) w PK K:=by
 cases vk<;>first|(cases hk;done)|skip
 all_goals cases vc<;>first|(cases hc;done)|exact o_new (fun b=>.slice (some ⟨b,0,none⟩) 1 1) (pgC p _ _) 48 (fun _=>by kernel_rfl) ho k
theorem o_apPg (i:Nat){v v2:Value}{n m:Nat}{xs news:List Value}{cb:Array Bool}(ho:OwnS S w0 w L)(hi:L[i]?=some (.urow 48 16 v n xs))(hs:Sl w v2 16 m news)(h1:∀u∈news,u.oneCell'=true)(hb:n+m≤100000000000)
  (k:∀v' w',OwnS S w0 w' (L.set i (.urow 48 16 v' (n+m) (xs++news)))→K v' w'):DoX prog (mB .append #[31,31] 31 cb #[v,v2]) w PK K:=
 o_appendU i Tryz.underlying31 elPg (by decide) ho hi hs h1 (by omega) (by omega) k
end
theorem plist_ret (d:Dc)(dv:Value)(M:Mem)(w:World)(hd:Dk.Ok d)(hM:M.has w)(hdv:DV M.A M.w dv d) :
  RetM prog 10 #[dv] M w (fun r N=>∃v cs,r=errV v (Pg.list d).2∧SlA N.A N.w v 16 (Pg.list d).1.length cs∧PgVs N.A N.w cs (Pg.list d).1):=by
 obtain⟨vi,tk,tc,dcs,rfl,hda⟩:=hdv;refine retM_of hM fun K hK=>S_pages_List_ok ?_;unfold S_pages_List;have no:∀{W:World} {N:Mem} {L:List Ent} {e:Int} (i:Nat),OwnS M.A w W L→L[i]?=some (.mem N)→M.le N→Pg.list d=([],e)→K (.returned (.tuple #[.slice none 0 0,.int .i64 e])) W:=fun i ho hi hle he=>
  hK _ _ _ _ i ho hi hle ⟨nilS,[],by rw[he];rfl,by rw[he];exact SlA.nil _ _ _ _,by rw[he];exact .nil⟩
 refine o_dcb d hda.items.one hda.trailer.oneK hda.trailer.oneC (OwnS.memS hM) fun b1 w1 ho=>?_;rw[dc_v ho 0 rfl];refine c_mem ho 1 rfl (pall_ret d _ M w1 hd (ho.hasM 1 rfl) hda.dv) ?_;rintro _ N w2 hle ⟨v,cs,rfl,hs,hls⟩ ho;obtain⟨hch,hll⟩:=Pg.leaves_ch hd;simp only[errV,ex,n_err];by_cases h1:(Pg.leaves d).2=0
 case neg=>
  simp only[h1,ne_eq,not_false_eq_true,decide_true,i_t];exact no 1 ho rfl hle (by unfold Pg.list;rw[if_pos h1])
 have hl:Pg.list d=Pg.pagesG d (Pg.leaves d).1 []:=by unfold Pg.list;rw[if_neg (by simp[h1])]
 simp only[h1,ne_eq,not_true,decide_false,i_f];rw[sl_len Tryz.underlying72 (hs.now (ho.hasM 1 rfl))];generalize (Pg.leaves d).1=l at *;have ho:OwnS M.A w w2 [.urow 48 16 nilS 0 [],dcE b1 d vi tk tc,.mem N]:=ho.nilU _ _;refine loop (fun vs W=>∃(i:Nat) (N':Mem) (v':Value) (ds:List Value) (acc:List Pge),vs=[v',.int .i64 i]∧i≤l.length∧N.le N'∧acc.length=i∧PgVs N'.A N'.w ds acc∧Pg.pagesG d l []=Pg.pagesG d (l.drop i) acc∧OwnS M.A w W [.urow 48 16 v' i ds,dcE b1 d vi tk tc,.mem N']) (fun vs _=>l.length - n1 vs)
  ⟨0,N,nilS,[],[],rfl,by omega,N.le_refl,rfl,.nil,rfl,ho⟩ ?_
 clear ho;rintro vs w3 ⟨i,N',v',ds,acc,rfl,hi,hle1,hacc,hds,he,ho⟩ _;simp only[S_pages_List_0,gd,rs];by_cases hlt:(i:Int) < (l.length:Int)
 ·have hi':i < l.length:=by omega
  simp only[hlt,decide_true,i_t];obtain⟨cv,p,hcv,r1,r2⟩:=leaf_at (hs.le hle1) (hls.le hle1) hi';refine do_eq (r1 w3) |>.mpr (do_eq (r2 w3 (ho.hasM 2 rfl)) |>.mpr ?_);refine o_lfa ho fun b8 w4 ho=>?_;refine lf_put 0 hcv.one ho rfl fun w5 ho=>?_;have ho:OwnS M.A w w5 [lfE b8 l[i] cv,.urow 48 16 v' i ds,dcE b1 d vi tk tc,.mem N']:=ho;rw[lf_v ho 0 rfl,dc_v ho 2 rfl];refine c_mem ho 3 rfl (ppage_ret d l[i] _ cv N' w5 hd (hch _ (List.getElem_mem hi')) (ho.hasM 3 rfl) (hda.le (hle.trans hle1)).dv hcv) ?_;rintro _ N2 w6 hle2 ⟨_,rfl,pk,pc,rfl,hp⟩ ho;simp only[errV,ex];refine o_pga ho fun b9 w7 ho=>?_;refine pg_put 0 hp.oneK hp.oneC ho rfl fun w8 ho=>?_;rw[n_err];rw[List.drop_eq_getElem_cons hi',Pg.pagesG] at he;by_cases hp2:(Pg.page d l[i]).2=0
  ·rw[if_neg (by simp[hp2])] at he;simp only[hp2,ne_eq,not_true,decide_false,i_f];rw[pg_v ho 0 rfl];refine o_pgs1 (Pg.page d l[i]).1 hp.oneK hp.oneC ho fun nb w9 ho=>?_;refine o_apPg 3 ho rfl (ho.sl 0 rfl 16 1 1 rfl) (pgC_one _ hp.oneK hp.oneC) (by omega) fun v2 w10 ho=>?_;rw[wrap64_id (by omega) (by omega)];exact nextX ⟨i+1,N2,v2,ds++pgC (Pg.page d l[i]).1 pk pc,acc++[(Pg.page d l[i]).1],rfl,by omega,hle1.trans hle2,by simp[hacc],Rws.snoc ⟨pk,pc,rfl,hp⟩ (hds.le hle2),he,ho.tail.tail.tail⟩ (by simp[n1,RowKit.intOf];omega)
  ·rw[if_pos hp2] at he;simp only[hp2,ne_eq,not_false_eq_true,decide_true,i_t];exact no 4 ho rfl ((hle.trans hle1).trans hle2) (by rw[hl,he])
 ·simp only[hlt,decide_false,i_f];rw[List.drop_eq_nil_of_le (by omega),Pg.pagesG] at he;obtain⟨N2,hle2,hrow,ho⟩:=OwnS.freezeU ho 1 rfl;refine hK _ _ N2 _ 1 ho rfl ((hle.trans hle1).trans hle2) ⟨v',ds,by rw[hl,he];rfl,by rw[hl,he];show SlA _ _ _ 16 acc.length ds;rw[hacc];exact hrow,by rw[hl,he];exact hds.le hle2⟩
end
section
open Eng
def S_filter_must (t0 t1:Value)(w:World)(K:Ending→World→Prop):Prop:=
 DoX prog (mUn .not t0) w (pk K) fun t5 w=>
 IfX t5 (DoX prog (mBuild 159 #[(0,t1)]) w (pk K) fun t7 w=>
 DoX prog (mIface 159 t7) w (pk K) fun t8 w=>
 DoX prog (mPanic t8) w (pk K) fun _ w=>
 K (.returned (.tuple #[])) w) (K (.returned (.tuple #[])) w)
theorem S_filter_must_eq (t0 t1:Value)(w:World)(K:Ending→World→Prop):wpX prog 9 [] [] none (bodyOf Tryz.f108) (topQ prog [] K) (startX [t0,t1]) [] w=S_filter_must t0 t1 w K:=by kernel_rfl
theorem S_filter_must_ok {t0 t1:Value}{w:World}{K:Ending→World→Prop}(h:S_filter_must t0 t1 w K):Calls prog 108 #[t0,t1] w K:=
 calls_of_wpX Tryz.func108 rfl rfl rfl rfl (Eq.mpr (S_filter_must_eq t0 t1 w K) h)
def S_filter_listed_1 (t6 t25 t26 t27:Value)(w:World)(N2:List Value→World→Prop)(K:Ending→World→Prop):Prop:=
 DoX prog (mBin .lss 3 t27 t26) w (pk K) fun t28 w=>
 IfX t28 (DoX prog (mIA 24 t25 t27) w (pk K) fun t29 w=>
 DoX prog (mLoad 26 t29) w (pk K) fun t30 w=>
 DoX prog (mAlloc 26) w (pk K) fun t8 w=>
 DoX prog (mStore 26 t8 t30) w (pk K) fun _ w=>
 DoX prog (mFA 26 t8 0) w (pk K) fun t31 w=>
 DoX prog (mLoad 3 t31) w (pk K) fun t32 w=>
 DoX prog (mEq .eql 3 (.tmp 32) (.const (.int .i64 5)) t32 (.int .i64 5)) w (pk K) fun t33 w=>
 CallX prog 108 #[t33,(.int .i64 10)] w (pk K) fun t34 w=>
 DoX prog (mFA 26 t8 3) w (pk K) fun t36 w=>
 DoX prog (mLoad 9 t36) w (pk K) fun t37 w=>
 DoX prog (mBuildS 23 1 #[(0,t37)]) w (pk K) fun t38 w=>
 DoX prog (mB .append #[23,23] 23 #[false,false] #[t6,t38]) w (pk K) fun t39 w=>
 DoX prog (mBin .add 3 t27 (.int .i64 1)) w (pk K) fun t40 w=>
 N2 [t39,t40] w) (K (.returned t6) w)
def S_filter_listed_0 (t5:Value)(w:World)(K:Ending→World→Prop):Prop:=
 DoX prog (mB .len #[24] 3 #[false] #[t5]) w (pk K) fun t26 w=>
 LoopX [(.slice none 0 0),(.int .i64 0)] w (fun vs2 w N2=>∀_:Sg,S_filter_listed_1 (vs2.getD 0 undef) t5 t26 (vs2.getD 1 undef) w N2 K)
def S_filter_listed (t0:Value)(w:World)(K:Ending→World→Prop):Prop:=
 DoX prog (mBox 26 t0) w (pk K) fun t1 w=>
 DoX prog (mLoad 26 t1) w (pk K) fun t10 w=>
 CallX prog 85 #[t10,(.string ⟨#[70,105,108,116,101,114]⟩)] w (pk K) fun t11 w=>
 DoX prog (mExt t11 0) w (pk K) fun t12 w=>
 DoX prog (mExt t11 1) w (pk K) fun t13 w=>
 DoX prog (mAlloc 26) w (pk K) fun t3 w=>
 DoX prog (mStore 26 t3 t12) w (pk K) fun _ w=>
 DoX prog (mLoad 26 t3) w (pk K) fun t14 w=>
 DoX prog (mBuildS 24 1 #[(0,t14)]) w (pk K) fun t15 w=>
 JoinX (fun J1=>
 DoX prog (mUn .not t13) w (pk K) fun t18 w=>
 IfX t18 (K (.returned (.slice none 0 0)) w) (DoX prog (mFA 26 t3 0) w (pk K) fun t20 w=>
 DoX prog (mLoad 3 t20) w (pk K) fun t21 w=>
 DoX prog (mEq .eql 3 (.tmp 21) (.const (.int .i64 6)) t21 (.int .i64 6)) w (pk K) fun t22 w=>
 IfX t22 (DoX prog (mFA 26 t3 5) w (pk K) fun t23 w=>
 DoX prog (mLoad 24 t23) w (pk K) fun t24 w=>
 J1 [t24] w) (J1 [t15] w))) (fun vs1 w=>∀_:Sg,S_filter_listed_0 (vs1.getD 0 undef) w K)
theorem S_filter_listed_eq (t0:Value)(w:World)(K:Ending→World→Prop):wpX prog 42 [(7,[5])] [(9,[6,27])] none (bodyOf Tryz.f109) (topQ prog [.tmp 2] K) (startX [t0]) [] w=S_filter_listed t0 w K:=by kernel_rfl
theorem S_filter_listed_ok {t0:Value}{w:World}{K:Ending→World→Prop}(h:S_filter_listed t0 w K):Calls prog 109 #[t0] w K:=
 calls_of_wpX Tryz.func109 rfl rfl rfl rfl (Eq.mpr (S_filter_listed_eq t0 w K) h)
def S_filter_parms_3 (t1 t8:Value)(w:World)(N4:List Value→World→Prop)(K:Ending→World→Prop):Prop:=
 DoX prog (mB .len #[142] 3 #[false] #[t8]) w (pk K) fun t58 w=>
 DoX prog (mBin .lss 3 t58 t1) w (pk K) fun t60 w=>
 IfX t60 (CallX prog 128 #[] w (pk K) fun t62 w=>
 DoX prog (mBuildS 142 1 #[(0,t62)]) w (pk K) fun t63 w=>
 DoX prog (mB .append #[142,142] 142 #[false,false] #[t8,t63]) w (pk K) fun t64 w=>
 N4 [t64] w) (K (.returned t8) w)
def S_filter_parms_2 (t1 t8 t47 t48 t49:Value)(w:World)(N3:List Value→World→Prop)(K:Ending→World→Prop):Prop:=
 DoX prog (mBin .lss 3 t49 t48) w (pk K) fun t50 w=>
 IfX t50 (DoX prog (mIA 24 t47 t49) w (pk K) fun t51 w=>
 DoX prog (mLoad 26 t51) w (pk K) fun t52 w=>
 DoX prog (mAlloc 26) w (pk K) fun t12 w=>
 DoX prog (mStore 26 t12 t52) w (pk K) fun _ w=>
 DoX prog (mLoad 26 t12) w (pk K) fun t53 w=>
 CallX prog 127 #[t53] w (pk K) fun t54 w=>
 CallX prog 108 #[t54,(.int .i64 1)] w (pk K) fun t55 w=>
 DoX prog (mBin .add 3 t49 (.int .i64 1)) w (pk K) fun t56 w=>
 N3 [t56] w) (LoopX [t8] w (fun vs4 w N4=>∀_:Sg,S_filter_parms_3 t1 (vs4.getD 0 undef) w N4 K))
def S_filter_parms_1 (t1 t5 t8 t30 t31 t32:Value)(w:World)(N2:List Value→World→Prop)(K:Ending→World→Prop):Prop:=
 DoX prog (mBin .lss 3 t32 t31) w (pk K) fun t33 w=>
 IfX t33 (DoX prog (mIA 24 t30 t32) w (pk K) fun t34 w=>
 DoX prog (mLoad 26 t34) w (pk K) fun t35 w=>
 DoX prog (mAlloc 26) w (pk K) fun t10 w=>
 DoX prog (mStore 26 t10 t35) w (pk K) fun _ w=>
 DoX prog (mLoad 26 t10) w (pk K) fun t37 w=>
 CallX prog 126 #[t37] w (pk K) fun t38 w=>
 DoX prog (mBuildS 142 1 #[(0,t38)]) w (pk K) fun t39 w=>
 DoX prog (mB .append #[142,142] 142 #[false,false] #[t8,t39]) w (pk K) fun t40 w=>
 DoX prog (mBin .add 3 t32 (.int .i64 1)) w (pk K) fun t41 w=>
 N2 [t40,t41] w) (DoX prog (mB .len #[24] 3 #[false] #[t5]) w (pk K) fun t43 w=>
 DoX prog (mBin .leq 3 t43 t1) w (pk K) fun t45 w=>
 CallX prog 108 #[t45,(.int .i64 1)] w (pk K) fun t46 w=>
 DoX prog (mB .len #[24] 3 #[false] #[t5]) w (pk K) fun t48 w=>
 LoopX [(.int .i64 0)] w (fun vs3 w N3=>∀_:Sg,S_filter_parms_2 t1 t8 t5 t48 (vs3.getD 0 undef) w N3 K))
def S_filter_parms_0 (t1 t5:Value)(w:World)(K:Ending→World→Prop):Prop:=
 DoX prog (mB .len #[24] 3 #[false] #[t5]) w (pk K) fun t31 w=>
 LoopX [(.slice none 0 0),(.int .i64 0)] w (fun vs2 w N2=>∀_:Sg,S_filter_parms_1 t1 t5 (vs2.getD 0 undef) t5 t31 (vs2.getD 1 undef) w N2 K)
def S_filter_parms (t0 t1:Value)(w:World)(K:Ending→World→Prop):Prop:=
 DoX prog (mBox 26 t0) w (pk K) fun t2 w=>
 JoinX (fun J1=>
 DoX prog (mLoad 26 t2) w (pk K) fun t14 w=>
 CallX prog 85 #[t14,(.string ⟨#[68,101,99,111,100,101,80,97,114,109,115]⟩)] w (pk K) fun t15 w=>
 DoX prog (mExt t15 0) w (pk K) fun t16 w=>
 DoX prog (mExt t15 1) w (pk K) fun t17 w=>
 DoX prog (mAlloc 26) w (pk K) fun t6 w=>
 DoX prog (mStore 26 t6 t16) w (pk K) fun _ w=>
 IfX t17 (DoX prog (mLoad 26 t6) w (pk K) fun t19 w=>
 DoX prog (mBuildS 24 1 #[(0,t19)]) w (pk K) fun t20 w=>
 DoX prog (mFA 26 t6 0) w (pk K) fun t21 w=>
 DoX prog (mLoad 3 t21) w (pk K) fun t22 w=>
 DoX prog (mEq .eql 3 (.tmp 22) (.const (.int .i64 6)) t22 (.int .i64 6)) w (pk K) fun t23 w=>
 IfX t23 (DoX prog (mFA 26 t6 5) w (pk K) fun t24 w=>
 DoX prog (mLoad 24 t24) w (pk K) fun t25 w=>
 J1 [t25] w) (DoX prog (mFA 26 t6 0) w (pk K) fun t26 w=>
 DoX prog (mLoad 3 t26) w (pk K) fun t27 w=>
 DoX prog (mEq .eql 3 (.tmp 27) (.const (.int .i64 7)) t27 (.int .i64 7)) w (pk K) fun t28 w=>
 CallX prog 108 #[t28,(.int .i64 10)] w (pk K) fun t29 w=>
 J1 [t20] w)) (J1 [(.slice none 0 0)] w)) (fun vs1 w=>∀_:Sg,S_filter_parms_0 t1 (vs1.getD 0 undef) w K)
theorem S_filter_parms_eq (t0 t1:Value)(w:World)(K:Ending→World→Prop):wpX prog 66 [(8,[5])] [(10,[8,32]),(16,[49]),(20,[8])] none (bodyOf Tryz.f111) (topQ prog [.tmp 4] K) (startX [t0,t1]) [] w=S_filter_parms t0 t1 w K:=by kernel_rfl
theorem S_filter_parms_ok {t0 t1:Value}{w:World}{K:Ending→World→Prop}(h:S_filter_parms t0 t1 w K):Calls prog 111 #[t0,t1] w K:=
 calls_of_wpX Tryz.func111 rfl rfl rfl rfl (Eq.mpr (S_filter_parms_eq t0 t1 w K) h)
def S_filter_Of_p0 (x0:Deferred)(x1:Value)(x2:Value)(x3:Value)(K:Ending→World→Prop):=pd prog [.cell x1 23,.cell x2 142,.cell x3 32] K [x0]
def S_filter_Of_2 (t2 t3 t4:Value)(d1:Deferred)(w:World)(K:Ending→World→Prop):Prop:=
 Leave prog [.cell t2 23,.cell t3 142,.cell t4 32] K [d1] .returning w
def S_filter_Of_1 (t2 t3 t4 t46 t47 t48:Value)(d1:Deferred)(w:World)(N3:List Value→World→Prop)(K:Ending→World→Prop):Prop:=
 DoX prog (mBin .lss 3 t48 t47) w (S_filter_Of_p0 d1 t2 t3 t4 K) fun t49 w=>
 IfX t49 (DoX prog (mIA 23 t46 t48) w (S_filter_Of_p0 d1 t2 t3 t4 K) fun t51 w=>
 DoX prog (mLoad 9 t51) w (S_filter_Of_p0 d1 t2 t3 t4 K) fun t52 w=>
 DoX prog (mLoad 142 t3) w (S_filter_Of_p0 d1 t2 t3 t4 K) fun t53 w=>
 DoX prog (mIA 142 t53 t48) w (S_filter_Of_p0 d1 t2 t3 t4 K) fun t55 w=>
 DoX prog (mLoad 147 t55) w (S_filter_Of_p0 d1 t2 t3 t4 K) fun t56 w=>
 CallX prog 112 #[t56] w (S_filter_Of_p0 d1 t2 t3 t4 K) fun t57 w=>
 DoX prog (mEq .neq 32 (.tmp 58) (.const (.int .i64 0)) t57 (.int .i64 0)) w (S_filter_Of_p0 d1 t2 t3 t4 K) fun t59 w=>
 GDo t59 true (fun E=>E t52 w) w fun t61 w=>
 GDo t59 true (fun E=>DoX prog (mEq .neq 9 (.tmp 61) (.const (.string ⟨#[]⟩)) t61 (.string ⟨#[]⟩)) w (S_filter_Of_p0 d1 t2 t3 t4 K) E) w fun t62 w=>
 DoX prog (mPick t59 t62 (.bool false)) w (S_filter_Of_p0 d1 t2 t3 t4 K) fun t63 w=>
 IfX t63 (DoX prog (mStore 23 t2 (.slice none 0 0)) w (S_filter_Of_p0 d1 t2 t3 t4 K) fun _ w=>
 DoX prog (mStore 142 t3 (.slice none 0 0)) w (S_filter_Of_p0 d1 t2 t3 t4 K) fun _ w=>
 DoX prog (mStore 32 t4 t57) w (S_filter_Of_p0 d1 t2 t3 t4 K) fun _ w=>
 Leave prog [.cell t2 23,.cell t3 142,.cell t4 32] K [d1] .returning w) (DoX prog (mBin .add 3 t48 (.int .i64 1)) w (S_filter_Of_p0 d1 t2 t3 t4 K) fun t65 w=>
 AtX [d1] [d1] (N3 [t65] w))) (DrawX w (fun w=>
 (DoX prog (mLoad 23 t2) w (S_filter_Of_p0 d1 t2 t3 t4 K) fun t66 w=>
 (DoX prog (mLoad 142 t3) w (S_filter_Of_p0 d1 t2 t3 t4 K) fun t67 w=>
 DoX prog (mStore 23 t2 t66) w (S_filter_Of_p0 d1 t2 t3 t4 K) fun _ w=>
 DoX prog (mStore 142 t3 t67) w (S_filter_Of_p0 d1 t2 t3 t4 K) fun _ w=>
 DoX prog (mStore 32 t4 (.int .i64 0)) w (S_filter_Of_p0 d1 t2 t3 t4 K) fun _ w=>
 S_filter_Of_2 t2 t3 t4 d1 w K)∧(DoX prog (mStore 23 t2 t66) w (S_filter_Of_p0 d1 t2 t3 t4 K) fun _ w=>
 DoX prog (mLoad 142 t3) w (S_filter_Of_p0 d1 t2 t3 t4 K) fun t67_1 w=>
 DoX prog (mStore 142 t3 t67_1) w (S_filter_Of_p0 d1 t2 t3 t4 K) fun _ w=>
 DoX prog (mStore 32 t4 (.int .i64 0)) w (S_filter_Of_p0 d1 t2 t3 t4 K) fun _ w=>
 S_filter_Of_2 t2 t3 t4 d1 w K))∧(DoX prog (mLoad 142 t3) w (S_filter_Of_p0 d1 t2 t3 t4 K) fun t67_2 w=>
 DoX prog (mLoad 23 t2) w (S_filter_Of_p0 d1 t2 t3 t4 K) fun t66_1 w=>
 DoX prog (mStore 23 t2 t66_1) w (S_filter_Of_p0 d1 t2 t3 t4 K) fun _ w=>
 DoX prog (mStore 142 t3 t67_2) w (S_filter_Of_p0 d1 t2 t3 t4 K) fun _ w=>
 DoX prog (mStore 32 t4 (.int .i64 0)) w (S_filter_Of_p0 d1 t2 t3 t4 K) fun _ w=>
 S_filter_Of_2 t2 t3 t4 d1 w K)))
def S_filter_Of_0 (t1 t2 t3 t4 t5 t24 t25 t26:Value)(d1:Deferred)(w:World)(N2:List Value→World→Prop)(K:Ending→World→Prop):Prop:=
 DoX prog (mBin .lss 3 t26 t25) w (S_filter_Of_p0 d1 t2 t3 t4 K) fun t27 w=>
 IfX t27 (DoX prog (mIA 23 t24 t26) w (S_filter_Of_p0 d1 t2 t3 t4 K) fun t28 w=>
 DoX prog (mLoad 9 t28) w (S_filter_Of_p0 d1 t2 t3 t4 K) fun t29 w=>
 CallX prog 110 #[t29] w (S_filter_Of_p0 d1 t2 t3 t4 K) fun t32 w=>
 DoX prog (mExt t32 0) w (S_filter_Of_p0 d1 t2 t3 t4 K) fun t33 w=>
 DoX prog (mExt t32 1) w (S_filter_Of_p0 d1 t2 t3 t4 K) fun t34 w=>
 CallX prog 108 #[t34,(.int .i64 15)] w (S_filter_Of_p0 d1 t2 t3 t4 K) fun t36 w=>
 DoX prog (mLoad 23 t2) w (S_filter_Of_p0 d1 t2 t3 t4 K) fun t37 w=>
 DoX prog (mBuildS 23 1 #[(0,t33)]) w (S_filter_Of_p0 d1 t2 t3 t4 K) fun t39 w=>
 DoX prog (mB .append #[23,23] 23 #[false,false] #[t37,t39]) w (S_filter_Of_p0 d1 t2 t3 t4 K) fun t40 w=>
 DoX prog (mStore 23 t2 t40) w (S_filter_Of_p0 d1 t2 t3 t4 K) fun _ w=>
 DoX prog (mBin .add 3 t26 (.int .i64 1)) w (S_filter_Of_p0 d1 t2 t3 t4 K) fun t41 w=>
 AtX [d1] [d1] (N2 [t41] w)) (DoX prog (mLoad 26 t1) w (S_filter_Of_p0 d1 t2 t3 t4 K) fun t42 w=>
 DoX prog (mB .len #[23] 3 #[false] #[t5]) w (S_filter_Of_p0 d1 t2 t3 t4 K) fun t44 w=>
 CallX prog 111 #[t42,t44] w (S_filter_Of_p0 d1 t2 t3 t4 K) fun t45 w=>
 DoX prog (mStore 142 t3 t45) w (S_filter_Of_p0 d1 t2 t3 t4 K) fun _ w=>
 DoX prog (mLoad 23 t2) w (S_filter_Of_p0 d1 t2 t3 t4 K) fun t46 w=>
 DoX prog (mB .len #[23] 3 #[false] #[t46]) w (S_filter_Of_p0 d1 t2 t3 t4 K) fun t47 w=>
 LoopX [(.int .i64 0)] w (fun vs3 w N3=>∀_:Sg,S_filter_Of_1 t2 t3 t4 t46 t47 (vs3.getD 0 undef) d1 w N3 K))
def S_filter_Of (t0:Value)(w:World)(K:Ending→World→Prop):Prop:=
 DoX prog (mBox 26 t0) w (pk K) fun t1 w=>
 DoX prog (mAlloc 23) w (pk K) fun t2 w=>
 DoX prog (mAlloc 142) w (pk K) fun t3 w=>
 DoX prog (mAlloc 32) w (pk K) fun t4 w=>
 DoX prog (mFunc (.func 107) #[] #[t2,t3,t4]) w (pk K) fun t13 w=>
 DfrX (dfrV t13 #[]) (fun d1=>
 DoX prog (mFA 26 t1 0) w (S_filter_Of_p0 d1 t2 t3 t4 K) fun t14 w=>
 DoX prog (mLoad 3 t14) w (S_filter_Of_p0 d1 t2 t3 t4 K) fun t15 w=>
 DoX prog (mEq .eql 3 (.tmp 15) (.const (.int .i64 9)) t15 (.int .i64 9)) w (S_filter_Of_p0 d1 t2 t3 t4 K) fun t16 w=>
 CallX prog 108 #[t16,(.int .i64 10)] w (S_filter_Of_p0 d1 t2 t3 t4 K) fun t17 w=>
 DoX prog (mLoad 26 t1) w (S_filter_Of_p0 d1 t2 t3 t4 K) fun t18 w=>
 CallX prog 109 #[t18] w (S_filter_Of_p0 d1 t2 t3 t4 K) fun t19 w=>
 DoX prog (mB .len #[23] 3 #[false] #[t19]) w (S_filter_Of_p0 d1 t2 t3 t4 K) fun t21 w=>
 DoX prog (mBin .leq 3 t21 (.int .i64 8)) w (S_filter_Of_p0 d1 t2 t3 t4 K) fun t22 w=>
 CallX prog 108 #[t22,(.int .i64 6)] w (S_filter_Of_p0 d1 t2 t3 t4 K) fun t23 w=>
 DoX prog (mB .len #[23] 3 #[false] #[t19]) w (S_filter_Of_p0 d1 t2 t3 t4 K) fun t25 w=>
 LoopX [(.int .i64 0)] w (fun vs2 w N2=>∀_:Sg,S_filter_Of_0 t1 t2 t3 t4 t19 t19 t25 (vs2.getD 0 undef) d1 w N2 K))
theorem S_filter_Of_eq (t0:Value)(w:World)(K:Ending→World→Prop):wpX prog 68 [] [(6,[26]),(14,[48])] none (bodyOf Tryz.f86) (topQ prog [.cell 2 23,.cell 3 142,.cell 4 32] K) (startX [t0]) [] w=S_filter_Of t0 w K:=by kernel_rfl
theorem S_filter_Of_ok {t0:Value}{w:World}{K:Ending→World→Prop}(h:S_filter_Of t0 w K):Calls prog 86 #[t0] w K:=
 calls_of_wpX Tryz.func86 rfl rfl rfl rfl (Eq.mpr (S_filter_Of_eq t0 w K) h)
def S_filter_Decode_0 (t5 t7 t21 t22 t23:Value)(w:World)(N1:List Value→World→Prop)(K:Ending→World→Prop):Prop:=
 DoX prog (mBin .lss 3 t23 t22) w (pk K) fun t24 w=>
 IfX t24 (DoX prog (mIA 23 t21 t23) w (pk K) fun t26 w=>
 DoX prog (mLoad 9 t26) w (pk K) fun t27 w=>
 DoX prog (mIA 142 t5 t23) w (pk K) fun t32 w=>
 DoX prog (mLoad 147 t32) w (pk K) fun t33 w=>
 CallX prog 87 #[t27,t33,t7] w (pk K) fun t35 w=>
 DoX prog (mExt t35 0) w (pk K) fun t36 w=>
 DoX prog (mExt t35 1) w (pk K) fun t37 w=>
 DoX prog (mEq .neq 32 (.tmp 38) (.const (.int .i64 0)) t37 (.int .i64 0)) w (pk K) fun t39 w=>
 IfX t39 (K (.returned (.tuple #[(.string ⟨#[]⟩),t37])) w) (DoX prog (mBin .add 3 t23 (.int .i64 1)) w (pk K) fun t41 w=>
 N1 [t36,t41] w)) (K (.returned (.tuple #[t7,(.int .i64 0)])) w)
def S_filter_Decode (t0:Value)(w:World)(K:Ending→World→Prop):Prop:=
 DoX prog (mBox 26 t0) w (pk K) fun t1 w=>
 DoX prog (mLoad 26 t1) w (pk K) fun t11 w=>
 CallX prog 86 #[t11] w (pk K) fun t12 w=>
 DoX prog (mExt t12 0) w (pk K) fun t13 w=>
 DoX prog (mExt t12 1) w (pk K) fun t14 w=>
 DoX prog (mExt t12 2) w (pk K) fun t15 w=>
 DoX prog (mEq .neq 32 (.tmp 16) (.const (.int .i64 0)) t15 (.int .i64 0)) w (pk K) fun t17 w=>
 IfX t17 (K (.returned (.tuple #[(.string ⟨#[]⟩),t15])) w) (DoX prog (mFA 26 t1 3) w (pk K) fun t19 w=>
 DoX prog (mLoad 9 t19) w (pk K) fun t20 w=>
 DoX prog (mB .len #[23] 3 #[false] #[t13]) w (pk K) fun t22 w=>
 LoopX [t20,(.int .i64 0)] w (fun vs1 w N1=>∀_:Sg,S_filter_Decode_0 t14 (vs1.getD 0 undef) t13 t22 (vs1.getD 1 undef) w N1 K))
theorem S_filter_Decode_eq (t0:Value)(w:World)(K:Ending→World→Prop):wpX prog 43 [] [(6,[7,23])] none (bodyOf Tryz.f59) (topQ prog [.tmp 2,.tmp 3] K) (startX [t0]) [] w=S_filter_Decode t0 w K:=by kernel_rfl
theorem S_filter_Decode_ok {t0:Value}{w:World}{K:Ending→World→Prop}(h:S_filter_Decode t0 w K):Calls prog 59 #[t0] w K:=
 calls_of_wpX Tryz.func59 rfl rfl rfl rfl (Eq.mpr (S_filter_Decode_eq t0 w K) h)
end
namespace Eng
theorem callsD_recoverA {P:Program}{f:FuncId}{fn:Func}{id:Nat}{o o2:Oper}{rest:Code}{args:List Value}{u:FrameMode}{w:World}{R:Ending→FrameMode→World→Prop}{n d d2:Nat}{aj al:List (Nat×List Nat)}{rs:List ResultVar}
  (hf:P.funcs[f]?=some fn) (hb:fn.body=some (.seq (.region id #[o,o2] false) rest)) (ho:o.op=.call { callee:=.builtin .recover,args:=#[],argTypes:=#[] }) (hg:o.guard=none) (hd:o.dst=some d) (hdn:Nat.blt d n=true)
  (ho2:o2.op=.assign (.tmp d)) (hg2:o2.guard=none) (hd2:o2.dst=some d2) (hdn2:Nat.blt d2 n=true)
  (hn:fn.ntmps=n) (hrs:fn.results.toList=rs) (hl:Nat.ble args.length n=true)
  (h:wpX P n aj al none rest (topD P rs (fun e w'=>R e (recM u) w')) (upd (upd (startX args) d (recV u)) d2 (recV u)) [] w):CallsD P f args.toArray u w R:=by
 refine callsD_of_wpS hf hb fun c₀ cs hu=>?_;rw[hn];refine wpS_seq (wpS_region ?_);have hex:∀ρ:Operand→Value,(execOp ρ o).run P w=.ok .recover w:=by
  intro ρ;unfold execOp;rw[ho];simp[resolve,invoke,builtin,bind,pure,Sem.bind,Sem.run]
 have hrep:=start_rep (args:=args) hl;have hput:Rep n (upd (startX args) d (recV u)) (({ tmps:=args.toArray++Array.replicate (n - args.toArray.size) undef,defers:=[] }:Act).put o.dst (recV u)).tmps:=by
  rw[hd];exact Rep.put (a:={ tmps:=args.toArray++Array.replicate (n - args.toArray.size) undef,defers:=[] }) hrep (d:=some d) hdn (recV u)
 have hdef:(({ tmps:=args.toArray++Array.replicate (n - args.toArray.size) undef,defers:=[] }:Act).put o.dst (recV u)).defers=[]:=by rw[hd];rfl
 obtain⟨A1,hA1⟩:∃A,A=({ tmps:=args.toArray++Array.replicate (n - args.toArray.size) undef,defers:=[] }:Act).put o.dst (recV u):=⟨_,rfl⟩;rw[←hA1] at hput hdef;have hex2:(execOp A1.eval o2).run P w=.ok (.value (recV u)) w:=by
  rw[Rep.eval hput];unfold execOp;rw[ho2];simp[rd,upd,pure,Sem.run]
 have key:wpOpsS P #[o,o2] (Exit.thenS (rest.wpS P (bodyPostS P fn c₀ cs R)) (bodyPostS P fn c₀ cs R)) [1] A1 ({ c₀ with mode:=recM u }::cs) w:=by
  unfold wpOpsS;simp only[List.getElem?_toArray,List.getElem?_cons_succ,List.getElem?_cons_zero];rw[if_pos (by simp[Region.wanted,hg2]),hex2];simp only[Oper.upon];have hput2:Rep n (upd (upd (startX args) d (recV u)) d2 (recV u)) (A1.put o2.dst (recV u)).tmps:=by
   rw[hd2];exact Rep.put hput (d:=some d2) hdn2 (recV u)
  have hdef2:(A1.put o2.dst (recV u)).defers=[]:=by rw[hd2];exact hdef
  refine wpS_of_wp (Code.wp_mono ?_ (wpIn_wide.1 (wpX_sound rest none _ _ _ w hput2 (by rw[hdef2];exact h))));rintro e a w' ⟨σ,hr,hk⟩;have hdd:∀K:Ending→World→Prop,RetD P (rvOf σ rs) w' K→∃v,(results fn a.tmps).run P w'=.ok v w'∧K (.returned v) w':=fun K hk=>by
   rw[results_eq hr,hrs];exact retX_iff hk
  generalize hds:a.defers=ds at hk;cases e<;>cases ds<;>first|(exact hk.elim;done)|skip
  ·obtain⟨v,h1,h2⟩:=hdd (fun e w'=>R e (recM u) w') hk;exact⟨hds,recM u,rfl,v,h1,h2⟩
  ·obtain⟨v,h1,h2⟩:=hdd (fun e w'=>R e (recM u) w') hk;exact⟨hds,recM u,rfl,v,h1,h2⟩
  ·exact⟨hds,recM u,rfl,hk⟩
 have e:=rec_eq c₀ cs;rw[hu] at e;show wpOpsS P #[o,o2] _ [0,1] _ (c₀::cs) w;unfold wpOpsS;simp only[List.getElem?_toArray,List.getElem?_cons_zero];rw[if_pos (by simp[Region.wanted,hg])];rw[hex];cases hrc:recoverD (c₀::cs) with
|none=>
  rw[hrc] at e;simp only[Prod.mk.injEq] at e;simp only;rw[e.1,e.2,←hA1];exact key
|some x=>
  obtain⟨v,cs'⟩:=x;rw[hrc] at e;simp only[Prod.mk.injEq] at e;simp only;rw[e.1,e.2,←hA1];exact key
end Eng
section
open Eng
def S_filter_Of_fn1_1 (w:World)(K:Ending→World→Prop):Prop:=
 K (.returned (.tuple #[])) w
def S_filter_Of_fn1_0 (t0 t1 t2 t4:Value)(w:World)(K:Ending→World→Prop):Prop:=
 DrawX w (fun w=>
 (DoX prog (mFA 159 t4 0) w (pk K) fun t17 w=>
 (DoX prog (mLoad 32 t17) w (pk K) fun t18 w=>
 DoX prog (mStore 23 t0 (.slice none 0 0)) w (pk K) fun _ w=>
 DoX prog (mStore 142 t1 (.slice none 0 0)) w (pk K) fun _ w=>
 DoX prog (mStore 32 t2 t18) w (pk K) fun _ w=>
 S_filter_Of_fn1_1 w K)∧(DoX prog (mStore 23 t0 (.slice none 0 0)) w (pk K) fun _ w=>
 (DoX prog (mLoad 32 t17) w (pk K) fun t18_1 w=>
 DoX prog (mStore 142 t1 (.slice none 0 0)) w (pk K) fun _ w=>
 DoX prog (mStore 32 t2 t18_1) w (pk K) fun _ w=>
 S_filter_Of_fn1_1 w K)∧(DoX prog (mStore 142 t1 (.slice none 0 0)) w (pk K) fun _ w=>
 DoX prog (mLoad 32 t17) w (pk K) fun t18_2 w=>
 DoX prog (mStore 32 t2 t18_2) w (pk K) fun _ w=>
 S_filter_Of_fn1_1 w K)))∧(DoX prog (mStore 23 t0 (.slice none 0 0)) w (pk K) fun _ w=>
 (DoX prog (mFA 159 t4 0) w (pk K) fun t17_1 w=>
 (DoX prog (mLoad 32 t17_1) w (pk K) fun t18_3 w=>
 DoX prog (mStore 142 t1 (.slice none 0 0)) w (pk K) fun _ w=>
 DoX prog (mStore 32 t2 t18_3) w (pk K) fun _ w=>
 S_filter_Of_fn1_1 w K)∧(DoX prog (mStore 142 t1 (.slice none 0 0)) w (pk K) fun _ w=>
 DoX prog (mLoad 32 t17_1) w (pk K) fun t18_4 w=>
 DoX prog (mStore 32 t2 t18_4) w (pk K) fun _ w=>
 S_filter_Of_fn1_1 w K))∧(DoX prog (mStore 142 t1 (.slice none 0 0)) w (pk K) fun _ w=>
 DoX prog (mFA 159 t4 0) w (pk K) fun t17_2 w=>
 DoX prog (mLoad 32 t17_2) w (pk K) fun t18_5 w=>
 DoX prog (mStore 32 t2 t18_5) w (pk K) fun _ w=>
 S_filter_Of_fn1_1 w K)))
def S_filter_Of_fn1 (t0 t1 t2 r:Value)(w:World)(K:Ending→World→Prop):Prop:=
 DoX prog (mEq .neq 20 (.tmp 7) (.const .nilIface) r .nilIface) w (pk K) fun t8 w=>
 IfX t8 (DoX prog (mTA r 20 159 true) w (pk K) fun t11 w=>
 DoX prog (mExt t11 0) w (pk K) fun t12 w=>
 DoX prog (mExt t11 1) w (pk K) fun t13 w=>
 DoX prog (mAlloc 159) w (pk K) fun t4 w=>
 DoX prog (mStore 159 t4 t12) w (pk K) fun _ w=>
 JoinX (fun J1=>
 DoX prog (mUn .not t13) w (pk K) fun t15 w=>
 IfX t15 (DoX prog (mPanic r) w (pk K) fun _ w=>
 J1 [] w) (J1 [] w)) (fun vs1 w=>∀_:Sg,S_filter_Of_fn1_0 t0 t1 t2 t4 w K)) (K (.returned (.tuple #[])) w)
theorem S_filter_Of_fn1_eq (t0 t1 t2 r:Value)(w:World)(K:Ending→World→Prop):wpX prog 19 [(5,[])] [] none (sndOf (bodyOf Tryz.f107)) (topD prog [] K) (upd (upd (startX [t0,t1,t2]) 6 r) 3 r) [] w=S_filter_Of_fn1 t0 t1 t2 r w K:=by kernel_rfl
theorem S_filter_Of_fn1_dok {t0 t1 t2:Value}{u:FrameMode}{w:World}{R:Ending→FrameMode→World→Prop}(h:S_filter_Of_fn1 t0 t1 t2 (recV u) w (fun e w=>R e (recM u) w)):CallsD prog 107 #[t0,t1,t2] u w R:=
 callsD_recoverA Tryz.func107 rfl rfl rfl rfl rfl rfl rfl rfl rfl rfl rfl rfl (Eq.mpr (S_filter_Of_fn1_eq t0 t1 t2 (recV u) w _) h)
end
section
open Eng Go.RowKit
theorem Pg.plain_ok {o:Ob}(h:Pg.plainS o=true):o.k=9∧∀k,Vl.get o k=none:=by
 simp only[Pg.plainS,Bool.and_eq_true,decide_eq_true_eq] at h;refine⟨h.1,fun k=>?_⟩;unfold Vl.get;rw[h.2];simp
section
variable {w:World}{PK:PKT}{K:VWP}{S:Nat→Prop}{w0:World}{L:List Ent}
theorem c_fmust {e:Int}(k:K (.tuple #[]) w):CallX prog 108 #[.bool true,.int .i64 e] w PK K:=by
 refine⟨S_filter_must_ok ?_⟩;simp only[S_filter_must,rs,Bool.not_true];exact k
end
theorem flisted_ret (o:Ob)(v:Value)(M:Mem)(w:World)(hp:Pg.plainS o=true)(hw:o.wt≤1000000000)(hM:M.has w)(hv:OV M.A M.w v o) :
  RetM prog 109 #[v] M w (fun r _=>r=nilS):=by
 obtain⟨vk,vc,ocs,rfl,ha⟩:=hv.open;obtain⟨h9,hg⟩:=Pg.plain_ok hp;refine retM_of hM fun K hK=>S_filter_listed_ok ?_;unfold S_filter_listed;refine o_obb o ha.keys.one ha.kids.one (OwnS.memS hM) fun b1 w1 ho=>?_;rw[ob_v ho 0 rfl];refine c_mem ho 1 rfl (vget_ret o _ [70,105,108,116,101,114] M w1 (by omega) (ho.hasM 1 rfl) hv) ?_;rintro _ N w2 hle ⟨x,rfl,hx⟩ ho;rw[hg] at hx ⊢;obtain⟨xk,xc,xcs,rfl,hxa⟩:=hx.open;simp only[getV,ex];refine o_oba ho fun b3 w3 ho=>?_;refine ob_put 0 hxa.keys.one hxa.kids.one ho rfl fun w4 ho=>?_;rw[ob_v ho 0 rfl];refine o_obs1 _ hxa.keys.one hxa.kids.one ho fun nb w5 ho=>?_;refine join fun J hJ=>?_;simp only[Option.isSome_none,rs,Bool.not_false];exact hK _ _ N _ 3 ho rfl hle rfl
theorem fparms_ret (o:Ob)(v:Value)(M:Mem)(w:World)(hp:Pg.plainS o=true)(hw:o.wt≤1000000000)(hM:M.has w)(hv:OV M.A M.w v o) :
  RetM prog 111 #[v,.int .i64 0] M w (fun r _=>r=nilS):=by
 obtain⟨vk,vc,ocs,rfl,ha⟩:=hv.open;obtain⟨h9,hg⟩:=Pg.plain_ok hp;refine retM_of hM fun K hK=>S_filter_parms_ok ?_;unfold S_filter_parms;refine o_obb o ha.keys.one ha.kids.one (OwnS.memS hM) fun b1 w1 ho=>?_;refine join fun J hJ=>?_;rw[ob_v ho 0 rfl];refine c_mem ho 1 rfl (vget_ret o _ [68,101,99,111,100,101,80,97,114,109,115] M w1 (by omega) (ho.hasM 1 rfl) hv) ?_;rintro _ N w2 hle ⟨x,rfl,hx⟩ ho;rw[hg] at hx ⊢;obtain⟨xk,xc,xcs,rfl,hxa⟩:=hx.open;simp only[getV,ex];refine o_oba ho fun b3 w3 ho=>?_;refine ob_put 0 hxa.keys.one hxa.kids.one ho rfl fun w4 ho=>?_;simp only[Option.isSome_none,rs];refine hJ _ _ fun _=>?_;simp only[gd,S_filter_parms_0];rw[sl_len_any Tryz.underlying24];refine loop (fun vs W=>vs=[nilS,.int .i64 0]∧w4=W) (fun _ _=>0) ⟨rfl,rfl⟩ ?_;rintro _ _ ⟨rfl,rfl⟩ _;simp only[S_filter_parms_1,gd,rs];rw[show decide ((0:Int) < ((0:Nat):Int))=false from rfl,i_f,sl_len_any Tryz.underlying24];simp only[rs];rw[show decide (((0:Nat):Int)≤0)=true from rfl];refine c_fmust ?_;rw[sl_len_any Tryz.underlying24];refine loop (fun vs W=>vs=[.int .i64 0]∧w4=W) (fun _ _=>0) ⟨rfl,rfl⟩ ?_;rintro _ _ ⟨rfl,rfl⟩ _;simp only[S_filter_parms_2,gd,rs];rw[show decide ((0:Int) < ((0:Nat):Int))=false from rfl,i_f];refine loop (fun vs W=>vs=[nilS]∧w4=W) (fun _ _=>0) ⟨rfl,rfl⟩ ?_;rintro _ _ ⟨rfl,rfl⟩ _;simp only[S_filter_parms_3,gd];rw[sl_len_any Tryz.underlying142];simp only[rs];rw[show decide (((0:Nat):Int) < 0)=false from rfl,i_f];exact hK _ _ N _ 2 ho rfl hle rfl
theorem of1_plain:plainB prog 107=true:=by kernel_rfl
theorem fof_ret (o:Ob)(v:Value)(M:Mem)(w:World)(hp:Pg.plainS o=true)(hw:o.wt≤1000000000)(hM:M.has w)(hv:OV M.A M.w v o) :
  RetM prog 86 #[v] M w (fun r _=>r=.tuple #[nilS,nilS,.int .i64 0]):=by
 obtain⟨vk,vc,ocs,rfl,ha⟩:=hv.open;obtain⟨h9,hg⟩:=Pg.plain_ok hp;refine retM_of hM fun K hK=>S_filter_Of_ok ?_;unfold S_filter_Of;refine o_obb o ha.keys.one ha.kids.one (OwnS.memS hM) fun b1 w1 ho=>?_;refine o_new (fun b=>.pointer (some ⟨b,0,none⟩)) [nilS] 23 (fun _=>by kernel_rfl) ho fun b2 w2 ho=>?_;refine o_new (fun b=>.pointer (some ⟨b,0,none⟩)) [nilS] 142 (fun _=>by kernel_rfl) ho fun b3 w3 ho=>?_;refine o_new (fun b=>.pointer (some ⟨b,0,none⟩)) [.int .i64 0] 32 (fun _=>by kernel_rfl) ho fun b4 w4 ho=>?_;rw[m_func];refine⟨_,rfl,?_⟩;rw[fa_o0,ob_k ho 3 rfl];simp only[rs,h9];refine c_fmust ?_;rw[ob_v ho 3 rfl];refine c_below ho (R:=fun v=>v=nilS) (RetM.told (flisted_ret o _ M w4 hp hw (ho.hasM 4 rfl) hv)) ?_;rintro _ w5 rfl ho;rw[sl_len_any Tryz.underlying23];simp only[rs];rw[show decide (((0:Nat):Int)≤8)=true from rfl];refine c_fmust ?_;rw[sl_len_any Tryz.underlying23];refine loop (fun vs W=>vs=[.int .i64 0]∧w5=W) (fun _ _=>0) ⟨rfl,rfl⟩ ?_;rintro _ _ ⟨rfl,rfl⟩ _;simp only[S_filter_Of_0,gd,rs];rw[show decide ((0:Int) < ((0:Nat):Int))=false from rfl,i_f,ob_v ho 3 rfl,sl_len_any Tryz.underlying23];refine c_below ho (R:=fun v=>v=nilS) (RetM.told (fparms_ret o _ M w5 hp hw (ho.hasM 4 rfl) hv)) ?_;rintro _ w6 rfl ho;refine o_store 1 ho rfl (by kernel_rfl) rfl (by simp) fun w7 ho=>?_;have ho:OwnS M.A w w7 [.cells b4 [.int .i64 0] 32,.cells b3 [nilS] 142,.cells b2 [nilS] 23,obE b1 o vk vc,.mem M]:=ho;rw[l_cell (by kernel_rfl) (ho.cell 2 rfl 0 rfl),sl_len_any Tryz.underlying23];refine loop (fun vs W=>vs=[.int .i64 0]∧w7=W) (fun _ _=>0) ⟨rfl,rfl⟩ ?_;rintro _ _ ⟨rfl,rfl⟩ _;simp only[S_filter_Of_1,gd,rs];rw[show decide ((0:Int) < ((0:Nat):Int))=false from rfl,i_f];have fin:∀{W:World},OwnS M.A w W [.cells b4 [.int .i64 0] 32,.cells b3 [nilS] 142,.cells b2 [nilS] 23,obE b1 o vk vc,.mem M] →
   S_filter_Of_2 (.pointer (some ⟨b2,0,none⟩)) (.pointer (some ⟨b3,0,none⟩)) (.pointer (some ⟨b4,0,none⟩)) { target:=.fn (.func 107) #[.pointer (some ⟨b2,0,none⟩),.pointer (some ⟨b3,0,none⟩),.pointer (some ⟨b4,0,none⟩)],args:=#[]++#[] } W K:=by
  intro W ho;unfold S_filter_Of_2;refine leave_fn (by simp) of1_plain (S_filter_Of_fn1_dok (t0:=.pointer (some ⟨b2,0,none⟩)) (t1:=.pointer (some ⟨b3,0,none⟩)) (t2:=.pointer (some ⟨b4,0,none⟩)) ?_);simp only[S_filter_Of_fn1,recV,recM,Eng.n_nil Tryz.underlying20,i_f];refine ret_v3 (rv_cell (AtV.cell (by kernel_rfl) (ho.cell 2 rfl 0 rfl))) (rv_cell (AtV.cell (by kernel_rfl) (ho.cell 1 rfl 0 rfl))) (rv_cell (AtV.cell nErr5 (ho.cell 0 rfl 0 rfl))) ?_;exact hK _ _ M _ 4 ho rfl M.le_refl rfl
 have ho:=ho.drew;have st:∀{W:World} {PK:PKT},OwnS M.A w W [.cells b4 [.int .i64 0] 32,.cells b3 [nilS] 142,.cells b2 [nilS] 23,obE b1 o vk vc,.mem M]→∀{F:VWP},(∀W,OwnS M.A w W [.cells b4 [.int .i64 0] 32,.cells b3 [nilS] 142,.cells b2 [nilS] 23,obE b1 o vk vc,.mem M]→F undef W) →
   DoX prog (mStore 23 (.pointer (some ⟨b2,0,none⟩)) nilS) W PK F:=fun ho F k=>o_store 2 ho rfl (by kernel_rfl) rfl (by simp) fun W2 ho=>k W2 ho
 have sp:∀{W:World} {PK:PKT},OwnS M.A w W [.cells b4 [.int .i64 0] 32,.cells b3 [nilS] 142,.cells b2 [nilS] 23,obE b1 o vk vc,.mem M]→∀{F:VWP},(∀W,OwnS M.A w W [.cells b4 [.int .i64 0] 32,.cells b3 [nilS] 142,.cells b2 [nilS] 23,obE b1 o vk vc,.mem M]→F undef W) →
   DoX prog (mStore 142 (.pointer (some ⟨b3,0,none⟩)) nilS) W PK F:=fun ho F k=>o_store 1 ho rfl (by kernel_rfl) rfl (by simp) fun W2 ho=>k W2 ho
 have se:∀{W:World} {PK:PKT},OwnS M.A w W [.cells b4 [.int .i64 0] 32,.cells b3 [nilS] 142,.cells b2 [nilS] 23,obE b1 o vk vc,.mem M]→∀{F:VWP},(∀W,OwnS M.A w W [.cells b4 [.int .i64 0] 32,.cells b3 [nilS] 142,.cells b2 [nilS] 23,obE b1 o vk vc,.mem M]→F undef W) →
   DoX prog (mStore 32 (.pointer (some ⟨b4,0,none⟩)) (.int .i64 0)) W PK F:=fun ho F k=>o_store 0 ho rfl (by kernel_rfl) rfl (by simp) fun W2 ho=>k W2 ho
 have ls:∀{W:World} {PK:PKT},OwnS M.A w W [.cells b4 [.int .i64 0] 32,.cells b3 [nilS] 142,.cells b2 [nilS] 23,obE b1 o vk vc,.mem M]→∀{F:VWP},DoX prog (mLoad 23 (.pointer (some ⟨b2,0,none⟩))) W PK F=F nilS W:=fun ho=>l_cell (by kernel_rfl) (ho.cell 2 rfl 0 rfl);have lq:∀{W:World} {PK:PKT},OwnS M.A w W [.cells b4 [.int .i64 0] 32,.cells b3 [nilS] 142,.cells b2 [nilS] 23,obE b1 o vk vc,.mem M]→∀{F:VWP},DoX prog (mLoad 142 (.pointer (some ⟨b3,0,none⟩))) W PK F=F nilS W:=fun ho=>l_cell (by kernel_rfl) (ho.cell 1 rfl 0 rfl);refine draw ⟨?_,?_⟩
 ·rw[ls ho];constructor
  ·rw[lq ho];exact st ho fun _ ho=>sp ho fun _ ho=>se ho fun _ ho=>fin ho
  ·refine st ho fun _ ho=>?_;rw[lq ho];exact sp ho fun _ ho=>se ho fun _ ho=>fin ho
 ·rw[lq ho,ls ho];exact st ho fun _ ho=>sp ho fun _ ho=>se ho fun _ ho=>fin ho
theorem fdecode_ret (o:Ob)(v:Value)(M:Mem)(w:World)(hp:Pg.plainS o=true)(hw:o.wt≤1000000000)(hM:M.has w)(hv:OV M.A M.w v o) :
  RetM prog 59 #[v] M w (fun r _=>r=.tuple #[.string ⟨o.s.toArray⟩,.int .i64 0]):=by
 obtain⟨vk,vc,ocs,rfl,ha⟩:=hv.open;refine retM_of hM fun K hK=>S_filter_Decode_ok ?_;unfold S_filter_Decode;refine o_obb o ha.keys.one ha.kids.one (OwnS.memS hM) fun b1 w1 ho=>?_;rw[ob_v ho 0 rfl];refine c_below ho (R:=fun v=>v=.tuple #[nilS,nilS,.int .i64 0]) (RetM.told (fof_ret o _ M w1 hp hw (ho.hasM 1 rfl) hv)) ?_;rintro _ w2 rfl ho;simp only[ex,x_ext (show [nilS,nilS,Value.int .i64 0][2]?=some (Value.int .i64 0) from rfl),x_ext (show [nilS,nilS,Value.int .i64 0][1]?=some nilS from rfl),x_ext (show [nilS,nilS,Value.int .i64 0][0]?=some nilS from rfl),n_err,show decide ((0:Int)≠0)=false by decide,i_f];rw[fa_o3,ob_s ho 0 rfl,sl_len_any Tryz.underlying23];refine loop (fun vs W=>vs=[.string ⟨o.s.toArray⟩,.int .i64 0]∧w2=W) (fun _ _=>0) ⟨rfl,rfl⟩ ?_;rintro _ _ ⟨rfl,rfl⟩ _;simp only[S_filter_Decode_0,gd,rs];rw[show decide ((0:Int) < ((0:Nat):Int))=false from rfl,i_f];exact hK _ _ M _ 1 ho rfl M.le_refl rfl
end
section
open Eng Go.RowKit
theorem Pg.texts_snoc:∀(m:List Ob) (o:Ob),Pg.texts (m++[o])=(if m=[] then [] else Pg.texts m++[10])++o.s
|[],o=>by simp[Pg.texts]
|[a],o=>by simp[Pg.texts]
|a::b::m,o=>by
  have ih:=Pg.texts_snoc (b::m) o;simp only[List.cons_append,Pg.texts,reduceCtorEq,if_false] at ih ⊢;rw[ih];simp
theorem Pg.texts_le:∀(k m:List Ob),(Pg.texts m).length≤(Pg.texts (m++k)).length
|[],m=>by rw[List.append_nil];exact Nat.le_refl _
|o::k,m=>by
  have h1:=Pg.texts_le k (m++[o]);rw[List.append_assoc] at h1;refine Nat.le_trans ?_ h1;rw[Pg.texts_snoc];split
  ·rename_i h;subst h;simp[Pg.texts]
  ·simp
theorem Pg.texts_take {l:List Ob}{i:Nat}(hi:i < l.length):Pg.texts (l.take (i+1))=(if i=0 then [] else Pg.texts (l.take i)++[10])++l[i].s:=by
 rw[List.take_succ_eq_append_getElem hi,Pg.texts_snoc]
 congr 1
 by_cases h0:i=0
 ·subst h0;simp
 ·rw[if_neg h0,if_neg];intro h;have:=congrArg List.length h;rw[List.length_take,List.length_nil] at this;omega
theorem bldLen_ret {b:Nat}{v:Value}{l:List UInt8}{w:World}(h:(Bld b v l).is w):Ret prog 62 #[.pointer (some ⟨b,0,none⟩)] w (fun r w'=>r=.int .i64 l.length∧Below w.heap.size w w'):=by
 obtain⟨p,hp,hcap,ho⟩:=(OwnS.lend h).openB;refine ret_of fun K hK=>S_strings_Builder_Len_ok ?_;unfold S_strings_Builder_Len;rw[m_nilP,f_addr (show fOff prog 104 1=some 1 by kernel_rfl),l_cell (by kernel_rfl) (ho.cell 0 rfl 1 rfl),sl_len Tryz.underlying102 (ho.slRow 1 rfl)];exact hK _ _ ⟨rfl,Below.refl _ _⟩
theorem content2 {M N:Mem}{w W:World}{av:Value}{ss:List Ob}{K:Ending→World→Prop}(hM:M.has w)(hc:Chn N.A N.w av ss)(hp:∀o∈ss,Pg.plainS o=true∧o.wt≤1000000000)(hl:ss.length≤1000000)(ht:(Pg.texts ss).length≤1048576)
  (ho:OwnS M.A w W [.mem N]) (hK:∀(W':World) (L:List Ent) (i:Nat),OwnS M.A w W' L→L[i]?=some (.mem N)→K (.returned (.tuple #[.string ⟨(Pg.texts ss).toArray⟩,.int .i64 0])) W'):S_pages_Content_2 av W K:=by
 unfold S_pages_Content_2;rw[hc.len (ho.hasM 0 rfl)];refine loop (fun vs W=>∃i:Nat,vs=[.int .i64 i]∧i≤ss.length∧OwnS M.A w W [.mem N]) (fun vs _=>ss.length - n0 vs) ⟨0,rfl,by omega,ho⟩ ?_;clear ho;rintro vs w1 ⟨i,rfl,hi,ho⟩ _;simp only[S_pages_Content_3,gd,rs];by_cases hlt:(i:Int) < (ss.length:Int)
 ·have hi':i < ss.length:=by omega
  simp only[hlt,decide_true,i_t];obtain⟨xv,p,hxv,r1,r2⟩:=chn_at hc hi';refine do_eq (r1 w1) |>.mpr (do_eq (r2 w1 (ho.hasM 0 rfl)) |>.mpr ?_);obtain⟨xk,xc,xcs,rfl,hxa⟩:=hxv.open;refine o_oba ho fun b15 w2 ho=>?_;refine ob_put 0 hxa.keys.one hxa.kids.one ho rfl fun w3 ho=>?_;obtain⟨h9,_⟩:=Pg.plain_ok (hp _ (List.getElem_mem hi')).1;rw[fa_o0,ob_k ho 0 rfl];simp only[rs,h9,show decide ((9:Int)≠9)=false by decide];rw[wrap64_id (by omega) (by omega)];exact nextX ⟨i+1,rfl,by omega,ho.tail⟩ (by simp[n0,RowKit.intOf];omega)
 simp only[hlt,decide_false,i_f];refine o_new (fun b=>.pointer (some ⟨b,0,none⟩)) [.pointer none,.slice none 0 0] 104 (fun _=>by kernel_rfl) ho fun b16 w4 ho=>?_;have hB0:∃v0,OwnS M.A w w4 [Bld b16 v0 [],.mem N]:=⟨_,OwnS.closeB (l:=[]) (.inl rfl) roomy_nil (ho.nilRow 5 1).swap⟩;obtain⟨v0,ho⟩:=hB0;rw[hc.len (ho.hasM 1 rfl)];refine loop (fun vs W=>∃(i:Nat) (bv:Value),vs=[.int .i64 i]∧i≤ss.length∧OwnS M.A w W [Bld b16 bv (Pg.texts (ss.take i)),.mem N]) (fun vs _=>ss.length - n0 vs) ⟨0,v0,rfl,by omega,by simpa[Pg.texts] using ho⟩ ?_;clear ho hlt hi;rintro vs w5 ⟨i,bv,rfl,hi,ho⟩ _;simp only[S_pages_Content_4,gd,rs];by_cases hlt:(i:Int) < (ss.length:Int)
 ·have hi':i < ss.length:=by omega
  simp only[hlt,decide_true,i_t];obtain⟨xv,p,hxv,r1,r2⟩:=chn_at hc hi';refine do_eq (r1 w5) |>.mpr (do_eq (r2 w5 (ho.hasM 1 rfl)) |>.mpr ?_);obtain⟨xk,xc,xcs,rfl,hxa⟩:=hxv.open;refine o_oba ho fun b18 w6 ho=>?_;refine ob_put 0 hxa.keys.one hxa.kids.one ho rfl fun w7 ho=>?_;obtain⟨hpl,hwx⟩:=hp _ (List.getElem_mem hi');have htk:=Pg.texts_take hi';have hle1:(Pg.texts (ss.take (i+1))).length≤1048576:=by
   have:=Pg.texts_le (ss.drop (i+1)) (ss.take (i+1));rw[List.take_append_drop] at this;omega
  have hlen:=congrArg List.length htk;rw[List.length_append] at hlen;rw[ob_v ho 0 rfl];refine c_below ho (R:=fun v=>v=.tuple #[.string ⟨ss[i].s.toArray⟩,.int .i64 0]) (RetM.told (fdecode_ret ss[i] _ N w7 hpl hwx (ho.hasM 2 rfl) hxv)) ?_;rintro _ w8 rfl ho;simp only[ex,n_err,show decide ((0:Int)≠0)=false by decide,i_f];have ho:OwnS M.A w w8 [obE b18 ss[i] xk xc,Bld b16 bv (Pg.texts (ss.take i)),.mem N]:=ho;refine join fun J hJ=>?_;have fin:∀{W:World} {bv:Value},OwnS M.A w W [obE b18 ss[i] xk xc,Bld b16 bv (if i=0 then [] else Pg.texts (ss.take i)++[10]),.mem N]→J [] W:=by
   intro W bv ho;refine hJ _ _ fun _=>?_;unfold S_pages_Content_5;refine c_turn 1 ho rfl (writeString_ret (s:=ss[i].s) (ho.at_ 1 rfl) (by omega)) ?_;rintro _ _ w9 ⟨_,v9,rfl⟩ ho;rw[←htk] at ho;have ho:OwnS M.A w w9 [obE b18 ss[i] xk xc,Bld b16 v9 (Pg.texts (ss.take (i+1))),.mem N]:=ho;refine c_below ho (R:=fun v=>v=.int .i64 (Pg.texts (ss.take (i+1))).length) (bldLen_ret (ho.at_ 1 rfl)) ?_;rintro _ w10 rfl ho;simp only[rs];rw[decide_eq_false (by omega),i_f,wrap64_id (by omega) (by omega)];exact nextX ⟨i+1,v9,rfl,by omega,ho.tail⟩ (by simp[n0,RowKit.intOf];omega)
  by_cases h0:i=0
  ·subst h0;rw[show decide ((0:Int) < ((0:Nat):Int))=false from rfl,i_f];exact fin (bv:=bv) ho
  ·rw[decide_eq_true (by omega),i_t];refine c_turn 1 ho rfl (writeByteN_ret (n:=10) (k:=10) (ho.at_ 1 rfl) (by
    have:=Pg.texts_le (ss.drop i) (ss.take i);rw[List.take_append_drop] at this;omega) rfl (by omega)) ?_
   rintro _ _ w9 ⟨_,v9,rfl⟩ ho;refine fin (bv:=v9) ?_;rw[if_neg h0];exact ho
 ·simp only[hlt,decide_false,i_f];have hie:i=ss.length:=by omega
  subst hie;rw[List.take_length] at ho;refine c_turn 0 ho rfl (bldString_ret (ho.at_ 0 rfl)) ?_;rintro _ _ w6 ⟨rfl,rfl⟩ ho;exact hK _ _ 1 ho rfl
theorem pcontent_ret (d:Dc)(n:Int)(dv:Value)(M:Mem)(w:World)(hd:Dk.Ok d)(hg:(Pg.get d n).2=0)(x:Lf)(hx:(Pg.at_ d n).1=x)(c:Ob)(o:Ob)(ab:List Ob)(hch:x.chain=o::ab)(hcv:Pg.val d o Pg.conK=c)(h0:c.k≠0)
  (hp:∀o∈Pg.streams d c,Pg.plainS o=true) (hl:(Pg.streams d c).length≤100000) (ht:(Pg.texts (Pg.streams d c)).length≤1048576) (hM:M.has w) (hdv:DV M.A M.w dv d) :
  RetM prog 32 #[dv,.int .i64 n] M w (fun r _=>r=.tuple #[.string ⟨(Pg.texts (Pg.streams d c)).toArray⟩,.int .i64 0]):=by
 obtain⟨vi,tk,tc,dcs,rfl,hda⟩:=hdv;refine retM_of hM fun K hK=>S_pages_Content_ok ?_;unfold S_pages_Content;obtain⟨ha,-⟩:=Pg.get_ok hg;obtain⟨-,-,hn,hat⟩:=Pg.at_ok ha;have hok:ChOk x.chain:=by rw[←hx,hat];exact Pg.leaf_ok hd hn
 refine o_dcb d hda.items.one hda.trailer.oneK hda.trailer.oneC (OwnS.memS hM) fun b2 w1 ho=>?_;rw[dc_v ho 0 rfl];refine c_mem ho 1 rfl (pget_ret d n _ M w1 hd (ho.hasM 1 rfl) hda.dv) ?_;rintro _ N w2 hle ⟨_,rfl,pk,pc,rfl,hpg⟩ ho;simp only[errV,ex];refine o_pga ho fun b6 w3 ho=>?_;refine pg_put 0 hpg.oneK hpg.oneC ho rfl fun w4 ho=>?_;have ho:OwnS M.A w w4 [dcE b2 d vi tk tc,.mem N]:=ho.tail;simp only[n_err,hg,show decide ((0:Int)≠0)=false by decide,i_f];rw[dc_v ho 0 rfl];refine c_mem ho 1 rfl (pat_ret d n _ N w4 hd (ho.hasM 1 rfl) (hda.le hle).dv) ?_;rintro _ N1 w5 hle1 ⟨cv,rfl,hcv1⟩ ho;simp only[errV,ex];refine o_lfa ho fun b8 w6 ho=>?_;refine lf_put 0 hcv1.one ho rfl fun w7 ho=>?_;rw[hx] at hcv1 ho;have ho:OwnS M.A w w7 [lfE b8 x cv,dcE b2 d vi tk tc,.mem N1]:=ho;simp only[n_err,ha,show decide ((0:Int)≠0)=false by decide,i_f];have hle01:=hle.trans hle1;have h0l:0 < x.chain.length:=by rw[hch];simp
 obtain⟨xv,p,hxv,r1,r2⟩:=chn_at hcv1 h0l;have hx0:x.chain[0]=o:=by simp[hch]
 rw[hx0] at hxv;have how:o.wt≤1000000000:=hok.wt o (by rw[hch];simp);have hok8:Dk.follow d o=o:=Pg.follow_id (hok.k o (by rw[hch];simp));have hcw:c.wt≤1000000000:=by rw[←hcv];exact Pg.val_wt hd _ how
 have hpv:Dk.path d (Dk.follow d o) [Pg.conK]=c:=by rw[hok8,←hcv];rfl
 have fin:∀{W:World} {N2:Mem} {b10:Nat} {ck cc:Value},N1.le N2→OV N2.A N2.w (obV c ck cc) c→OwnS M.A w W [obE b10 c ck cc,lfE b8 x cv,dcE b2 d vi tk tc,.mem N2]→S_pages_Content_0 (.pointer (some ⟨b2,0,none⟩)) (.pointer (some ⟨b10,0,none⟩)) W K:=by
  intro W N2 b10 ck cc hle2 hc ho;unfold S_pages_Content_0;rw[ob_v ho 0 rfl];refine o_obs1 c hc.oneK hc.oneC ho fun nb w8 ho=>?_;have ho:=OwnS.toU (b:=nb) (cs:=obC c ck cc) (E:=26) ho 6 1 1 rfl (by omega) (by omega);obtain⟨N3,hle3,hrow,ho⟩:=OwnS.freezeU ho 3 rfl;have ho:OwnS M.A w w8 [obE b10 c ck cc,lfE b8 x cv,dcE b2 d vi tk tc,.mem N3]:=ho;have hone:Chn N3.A N3.w (.slice (some ⟨nb,0,none⟩) 1 1) [c]:=⟨_,hrow,ovs_1 (hc.le hle3)⟩;refine join fun J hJ=>?_;rw[fa_o0,ob_k ho 0 rfl];simp only[rs,h0,decide_false];by_cases h6:c.k=6
  ·have hss:Pg.streams d c=c.kids.map (Dk.follow d):=by unfold Pg.streams;rw[if_pos h6]
   rw[hss] at hp hl ht hK;rw[List.length_map] at hl;obtain⟨kcs,hka⟩:=(hc.le hle3).slices;simp only[h6,decide_true,i_t];rw[fa_o5,ob_kids ho 0 rfl,sl_len Tryz.underlying24 (hka.kids.now (ho.hasM 3 rfl))];have ho:OwnS M.A w w8 [.urow 26 6 nilS 0 [],obE b10 c ck cc,lfE b8 x cv,dcE b2 d vi tk tc,.mem N3]:=ho.nilU _ _;refine loop (fun vs W=>∃(i:Nat) (N':Mem) (v':Value) (ds:List Value),vs=[v',.int .i64 i]∧i≤c.kids.length∧N3.le N'∧OVs N'.A N'.w ds ((c.kids.take i).map (Dk.follow d))∧OwnS M.A w W [.urow 26 6 v' i ds,obE b10 c ck cc,lfE b8 x cv,dcE b2 d vi tk tc,.mem N']) (fun vs _=>c.kids.length - n1 vs)
    ⟨0,N3,nilS,[],rfl,by omega,N3.le_refl,.nil,ho⟩ ?_
   clear ho;rintro vs w9 ⟨i,N',v',ds,rfl,hi,hle4,hds,ho⟩ _;simp only[S_pages_Content_1,gd,rs];by_cases hlt:(i:Int) < (c.kids.length:Int)
   ·have hi':i < c.kids.length:=by omega
    simp only[hlt,decide_true,i_t];obtain⟨kv,q,hk,hr⟩:=kid_at hka hi';obtain⟨q1,q2⟩:=hr w9 (Mem.has_of hle4 (ho.hasM 4 rfl));refine do_eq q1 |>.mpr (do_eq q2 |>.mpr ?_);obtain⟨kk,kc,kcs2,rfl,hkk⟩:=hk.open;have hkw:=kid_wt hi';refine o_oba ho fun b13 w10 ho=>?_;refine ob_put 0 hkk.keys.one hkk.kids.one ho rfl fun w11 ho=>?_;rw[dc_v ho 4 rfl,ob_v ho 0 rfl];refine c_mem ho 5 rfl (dfollow_ret d c.kids[i] _ _ N' w11 hd (by omega) (ho.hasM 5 rfl) (hda.le (((hle01.trans hle2).trans hle3).trans hle4)).dv (hk.le hle4)) fun y N5 w12 hle5 hy ho=>?_;obtain⟨yk,yc,ycs,rfl,hya⟩:=hy.open;refine o_obs1 _ hya.keys.one hya.kids.one ho fun nb2 w13 ho=>?_;refine o_apO 2 ho rfl (ho.sl 0 rfl 6 1 1 rfl) (obC_one _ hya.keys.one hya.kids.one) (by omega) fun v2 w14 ho=>?_;rw[wrap64_id (by omega) (by omega)];refine nextX ⟨i+1,N5,v2,_,rfl,by omega,hle4.trans hle5,?_,ho.tail.tail⟩ (by simp[n1,RowKit.intOf];omega);rw[List.take_succ_eq_append_getElem hi',List.map_append];exact ovs_app (hds.le hle5) (ovs_1 hy)
   ·simp only[hlt,decide_false,i_f];have hie:i=c.kids.length:=by omega
    subst hie;rw[List.take_length] at hds;obtain⟨N5,hle5,hrow2,ho⟩:=OwnS.freezeU ho 3 rfl;refine hJ _ _ fun _=>?_;simp only[gd];refine content2 (M:=M) (w:=w) (N:=N5) hM ⟨ds,by rw[List.length_map];exact hrow2,hds.le hle5⟩ (fun z hz=>⟨hp z hz,?_⟩) (by rw[List.length_map];omega) ht ho.tail.tail.tail fun W' L j ho hj=>hK _ _ N5 _ j ho hj ((((hle01.trans hle2).trans hle3).trans hle4).trans hle5) rfl;obtain⟨y,hy,rfl⟩:=List.mem_map.1 hz;obtain⟨m,hm,rfl⟩:=List.getElem_of_mem hy;have:=kid_wt hm;exact Dk.follow_wt hd (by omega)
  ·have hss:Pg.streams d c=[c]:=by unfold Pg.streams;rw[if_neg h6]
   rw[hss] at hp hl ht hK;simp only[h6,decide_false,i_f];refine hJ _ _ fun _=>?_;simp only[gd];refine content2 (M:=M) (w:=w) (N:=N3) hM hone (fun z hz=>⟨hp z hz,?_⟩) (by simp) ht ho.tail.tail.tail fun W' L j ho hj=>hK _ _ N3 _ j ho hj ((hle01.trans hle2).trans hle3) rfl;have:z=c:=by simpa using hz
   rw[this];exact hcw
 have ho:=ho.drew;refine⟨fun W=>(dcE b2 d vi tk tc).is W∧(lfE b8 x cv).is W∧N1.has W,⟨ho.at_ 1 rfl,ho.at_ 0 rfl,ho.hasM 2 rfl⟩,?_⟩;refine hd_do _ (fun W h=>run_dcv h.1) (hd_pure _ (fun _=>run_fa fo_lf1) (hd_do cv (fun W h=>run_load_cell nSlObP (cells_cell (T:=76) h.2.1 (i:=0+1) rfl)) (hd_pure _ (fun W=>r1 W) (hd_do _ (fun W h=>r2 W h.2.2) ?_))));have st:∀{W:World} {PK:PKT} {N2:Mem} {b10:Nat} {y:Value} {Q:World→Prop},N1.le N2→OV N2.A N2.w y c→OwnS M.A w W [obE b10 ob0 nilS nilS,lfE b8 x cv,dcE b2 d vi tk tc,.mem N2] →
   DoX prog (mStore 26 (.pointer (some ⟨b10,0,none⟩)) y) W PK fun _ w=>S_pages_Content_0 (.pointer (some ⟨b2,0,none⟩)) (.pointer (some ⟨b10,0,none⟩)) w K:=by
  intro W PK N2 b10 y Q hle2 hy ho;obtain⟨yk,yc,ycs,rfl,hya⟩:=hy.open;refine ob_put 0 hya.keys.one hya.kids.one ho rfl fun w6 ho=>?_;exact fin hle2 hy ho
 constructor
 ·refine o_str1M Pg.conK 2 ho rfl fun sv N2 w8 hle2 hs ho=>?_;have ho:OwnS M.A w w8 [lfE b8 x cv,dcE b2 d vi tk tc,.mem N2]:=ho;refine⟨⟨ho.at_ 1 rfl,ho.at_ 0 rfl,Mem.has_of hle2 (ho.hasM 2 rfl)⟩,?_,?_⟩
  ·refine c_mem ho 2 rfl (dpath_ret d o [Pg.conK] _ _ _ N2 w8 hd how (by simp) (ho.hasM 2 rfl) (hda.le (hle01.trans hle2)).dv (hxv.le hle2) hs) fun y N3 w9 hle3 hy ho=>?_;rw[hpv] at hy;refine⟨⟨ho.at_ 1 rfl,ho.at_ 0 rfl,Mem.has_of (hle2.trans hle3) (ho.hasM 2 rfl)⟩,?_⟩;refine o_oba ho fun b10 w10 ho=>?_;exact⟨⟨ho.at_ 2 rfl,ho.at_ 1 rfl,Mem.has_of (hle2.trans hle3) (ho.hasM 3 rfl)⟩,st (Q:=fun _=>True) (hle2.trans hle3) hy ho⟩
  ·refine o_oba ho fun b10 w10 ho=>?_;refine⟨⟨ho.at_ 2 rfl,ho.at_ 1 rfl,Mem.has_of hle2 (ho.hasM 3 rfl)⟩,?_⟩;refine c_mem ho 3 rfl (dpath_ret d o [Pg.conK] _ _ _ N2 w10 hd how (by simp) (ho.hasM 3 rfl) (hda.le (hle01.trans hle2)).dv (hxv.le hle2) hs) fun y N3 w9 hle3 hy ho=>?_;rw[hpv] at hy;exact⟨⟨ho.at_ 2 rfl,ho.at_ 1 rfl,Mem.has_of (hle2.trans hle3) (ho.hasM 3 rfl)⟩,st (Q:=fun _=>True) (hle2.trans hle3) hy ho⟩
 ·refine o_oba ho fun b10 w10 ho=>?_;refine⟨⟨ho.at_ 2 rfl,ho.at_ 1 rfl,ho.hasM 3 rfl⟩,?_⟩;refine o_str1M Pg.conK 3 ho rfl fun sv N2 w8 hle2 hs ho=>?_;have ho:OwnS M.A w w8 [obE b10 ob0 nilS nilS,lfE b8 x cv,dcE b2 d vi tk tc,.mem N2]:=ho;refine⟨⟨ho.at_ 2 rfl,ho.at_ 1 rfl,Mem.has_of hle2 (ho.hasM 3 rfl)⟩,?_⟩;refine c_mem ho 3 rfl (dpath_ret d o [Pg.conK] _ _ _ N2 w8 hd how (by simp) (ho.hasM 3 rfl) (hda.le (hle01.trans hle2)).dv (hxv.le hle2) hs) fun y N3 w9 hle3 hy ho=>?_;rw[hpv] at hy;exact⟨⟨ho.at_ 2 rfl,ho.at_ 1 rfl,Mem.has_of (hle2.trans hle3) (ho.hasM 3 rfl)⟩,st (Q:=fun _=>True) (hle2.trans hle3) hy ho⟩
end
section
open Eng
def S_foliantlaw35_dict (t0:Value)(w:World)(K:Ending→World→Prop):Prop:=
 DoX prog (mAlloc 26) w (pk K) fun t2 w=>
 CallX prog 83 #[t0] w (pk K) fun t7 w=>
 DoX prog (mExt t7 0) w (pk K) fun t8 w=>
 DoX prog (mExt t7 1) w (pk K) fun t9 w=>
 DoX prog (mAlloc 26) w (pk K) fun t3 w=>
 DoX prog (mStore 26 t3 t8) w (pk K) fun _ w=>
 DoX prog (mLoad 26 t3) w (pk K) fun t10 w=>
 DoX prog (mStore 26 t2 t10) w (pk K) fun _ w=>
 RetX prog [.cell t2 26] w K
theorem S_foliantlaw35_dict_eq (t0:Value)(w:World)(K:Ending→World→Prop):wpX prog 11 [] [] none (bodyOf Tryz.f53) (topQ prog [.cell 2 26] K) (startX [t0]) [] w=S_foliantlaw35_dict t0 w K:=by kernel_rfl
theorem S_foliantlaw35_dict_ok {t0:Value}{w:World}{K:Ending→World→Prop}(h:S_foliantlaw35_dict t0 w K):Calls prog 53 #[t0] w K:=
 calls_of_wpX Tryz.func53 rfl rfl rfl rfl (Eq.mpr (S_foliantlaw35_dict_eq t0 w K) h)
def S_foliantlaw35_key (t0:Value)(w:World)(K:Ending→World→Prop):Prop:=
 DoX prog (mAlloc 26) w (pk K) fun t2 w=>
 CallX prog 84 #[t0] w (pk K) fun t4 w=>
 DoX prog (mStore 26 t2 t4) w (pk K) fun _ w=>
 RetX prog [.cell t2 26] w K
theorem S_foliantlaw35_key_eq (t0:Value)(w:World)(K:Ending→World→Prop):wpX prog 5 [] [] none (bodyOf Tryz.f54) (topQ prog [.cell 2 26] K) (startX [t0]) [] w=S_foliantlaw35_key t0 w K:=by kernel_rfl
theorem S_foliantlaw35_key_ok {t0:Value}{w:World}{K:Ending→World→Prop}(h:S_foliantlaw35_key t0 w K):Calls prog 54 #[t0] w K:=
 calls_of_wpX Tryz.func54 rfl rfl rfl rfl (Eq.mpr (S_foliantlaw35_key_eq t0 w K) h)
def S_foliantlaw35_box (t0 t1 t2 t3:Value)(w:World)(K:Ending→World→Prop):Prop:=
 DoX prog (mAlloc 26) w (pk K) fun t8 w=>
 CallX prog 26 #[t0] w (pk K) fun t10 w=>
 CallX prog 26 #[t1] w (pk K) fun t12 w=>
 CallX prog 26 #[t2] w (pk K) fun t14 w=>
 CallX prog 26 #[t3] w (pk K) fun t16 w=>
 DoX prog (mBuildS 24 4 #[(0,t10),(1,t12),(2,t14),(3,t16)]) w (pk K) fun t17 w=>
 CallX prog 24 #[t17] w (pk K) fun t18 w=>
 DoX prog (mStore 26 t8 t18) w (pk K) fun _ w=>
 RetX prog [.cell t8 26] w K
theorem S_foliantlaw35_box_eq (t0 t1 t2 t3:Value)(w:World)(K:Ending→World→Prop):wpX prog 19 [] [] none (bodyOf Tryz.f34) (topQ prog [.cell 8 26] K) (startX [t0,t1,t2,t3]) [] w=S_foliantlaw35_box t0 t1 t2 t3 w K:=by kernel_rfl
theorem S_foliantlaw35_box_ok {t0 t1 t2 t3:Value}{w:World}{K:Ending→World→Prop}(h:S_foliantlaw35_box t0 t1 t2 t3 w K):Calls prog 34 #[t0,t1,t2,t3] w K:=
 calls_of_wpX Tryz.func34 rfl rfl rfl rfl (Eq.mpr (S_foliantlaw35_box_eq t0 t1 t2 t3 w K) h)
def S_foliantlaw35_sample_1 (t0:Value)(w:World)(K:Ending→World→Prop):Prop:=
 RetX prog [.cell t0 28] w K
def S_foliantlaw35_sample_0 (t0 t2:Value)(w:World)(K:Ending→World→Prop):Prop:=
 CallX prog 54 #[(.string ⟨#[84,121,112,101]⟩)] w (pk K) fun t13 w=>
 CallX prog 54 #[(.string ⟨#[80,97,103,101,115]⟩)] w (pk K) fun t14 w=>
 CallX prog 54 #[(.string ⟨#[75,105,100,115]⟩)] w (pk K) fun t15 w=>
 CallX prog 31 #[(.int .i64 3),(.int .i64 0)] w (pk K) fun t16 w=>
 CallX prog 31 #[(.int .i64 4),(.int .i64 0)] w (pk K) fun t17 w=>
 DoX prog (mBuildS 24 2 #[(0,t16),(1,t17)]) w (pk K) fun t18 w=>
 CallX prog 24 #[t18] w (pk K) fun t19 w=>
 CallX prog 54 #[(.string ⟨#[77,101,100,105,97,66,111,120]⟩)] w (pk K) fun t20 w=>
 CallX prog 34 #[(.int .i64 3),(.int .i64 4),(.int .i64 1),(.int .i64 2)] w (pk K) fun t21 w=>
 DoX prog (mBuildS 24 6 #[(0,t13),(1,t14),(2,t15),(3,t19),(4,t20),(5,t21)]) w (pk K) fun t22 w=>
 CallX prog 53 #[t22] w (pk K) fun t23 w=>
 DoX prog (mAlloc 26) w (pk K) fun t3 w=>
 DoX prog (mStore 26 t3 t23) w (pk K) fun _ w=>
 CallX prog 54 #[(.string ⟨#[84,121,112,101]⟩)] w (pk K) fun t24 w=>
 CallX prog 54 #[(.string ⟨#[80,97,103,101]⟩)] w (pk K) fun t25 w=>
 CallX prog 54 #[(.string ⟨#[67,111,110,116,101,110,116,115]⟩)] w (pk K) fun t26 w=>
 CallX prog 31 #[(.int .i64 5),(.int .i64 0)] w (pk K) fun t27 w=>
 CallX prog 31 #[(.int .i64 5),(.int .i64 0)] w (pk K) fun t28 w=>
 DoX prog (mBuildS 24 2 #[(0,t27),(1,t28)]) w (pk K) fun t29 w=>
 CallX prog 24 #[t29] w (pk K) fun t30 w=>
 DoX prog (mBuildS 24 4 #[(0,t24),(1,t25),(2,t26),(3,t30)]) w (pk K) fun t31 w=>
 CallX prog 53 #[t31] w (pk K) fun t32 w=>
 DoX prog (mAlloc 26) w (pk K) fun t4 w=>
 DoX prog (mStore 26 t4 t32) w (pk K) fun _ w=>
 CallX prog 54 #[(.string ⟨#[84,121,112,101]⟩)] w (pk K) fun t33 w=>
 CallX prog 54 #[(.string ⟨#[80,97,103,101]⟩)] w (pk K) fun t34 w=>
 CallX prog 54 #[(.string ⟨#[77,101,100,105,97,66,111,120]⟩)] w (pk K) fun t35 w=>
 CallX prog 34 #[(.int .i64 0),(.int .i64 0),(.int .i64 9),(.int .i64 9)] w (pk K) fun t36 w=>
 CallX prog 54 #[(.string ⟨#[67,114,111,112,66,111,120]⟩)] w (pk K) fun t37 w=>
 CallX prog 34 #[(.int .i64 5),(.int .i64 5),(.int .i64 20),(.int .i64 20)] w (pk K) fun t38 w=>
 CallX prog 54 #[(.string ⟨#[82,111,116,97,116,101]⟩)] w (pk K) fun t39 w=>
 CallX prog 26 #[(.int .i64 (-90))] w (pk K) fun t40 w=>
 DoX prog (mBuildS 24 8 #[(0,t33),(1,t34),(2,t35),(3,t36),(4,t37),(5,t38),(6,t39),(7,t40)]) w (pk K) fun t41 w=>
 CallX prog 53 #[t41] w (pk K) fun t42 w=>
 DoX prog (mAlloc 26) w (pk K) fun t5 w=>
 DoX prog (mStore 26 t5 t42) w (pk K) fun _ w=>
 HeldX w (fun S2 w=>
 HDo prog S2 (mLoad 26 t2) fun t43=>
 HDo prog (fun _=>True) (mBuild 53 #[(0,(.int .i64 1)),(2,t43)]) fun t44=>
 HDo prog S2 (mLoad 26 t3) fun t45=>
 HDo prog (fun _=>True) (mBuild 53 #[(0,(.int .i64 2)),(2,t45)]) fun t46=>
 HDo prog S2 (mLoad 26 t4) fun t47=>
 HDo prog (fun _=>True) (mBuild 53 #[(0,(.int .i64 3)),(2,t47)]) fun t48=>
 HDo prog S2 (mLoad 26 t5) fun t49=>
 HDo prog (fun _=>True) (mBuild 53 #[(0,(.int .i64 4)),(2,t49)]) fun t50=>
 HDo prog (fun _=>True) (mBuild 26 #[(0,(.int .i64 9)),(3,(.string ⟨#[113]⟩))]) fun t51=>
 HDo prog (fun _=>True) (mBuild 53 #[(0,(.int .i64 5)),(2,t51)]) fun t52=>
 (DoX prog (mBuildS 22 5 #[(0,t44),(1,t46),(2,t48),(3,t50),(4,t52)]) w (pm1 (pm1 (pm1 (pm1 (pm1 (pm1 (pm1 (pm1 (pm1 (pm1 (pm1 (pk K)))))))))))) fun t53 w=>
 S2 w∧(CallX prog 54 #[(.string ⟨#[82,111,111,116]⟩)] w (pm1 (pm1 (pm1 (pm1 (pm1 (pm1 (pm1 (pm1 (pm1 (pm1 (pm1 (pk K)))))))))))) fun t54 w=>
 S2 w∧(CallX prog 31 #[(.int .i64 1),(.int .i64 0)] w (pm1 (pm1 (pm1 (pm1 (pm1 (pm1 (pm1 (pm1 (pm1 (pm1 (pm1 (pk K)))))))))))) fun t55 w=>
 S2 w∧(DoX prog (mBuildS 24 2 #[(0,t54),(1,t55)]) w (pm1 (pm1 (pm1 (pm1 (pm1 (pm1 (pm1 (pm1 (pm1 (pm1 (pm1 (pk K)))))))))))) fun t56 w=>
 S2 w∧(CallX prog 53 #[t56] w (pm1 (pm1 (pm1 (pm1 (pm1 (pm1 (pm1 (pm1 (pm1 (pm1 (pm1 (pk K)))))))))))) fun t57 w=>
 S2 w∧(HDo prog (fun _=>True) (mBuild 28 #[(0,t53),(1,t57)]) fun t58=>
 DoX prog (mStore 28 t0 t58) w (pm1 (pm1 (pm1 (pm1 (pm1 (pm1 (pm1 (pm1 (pm1 (pm1 (pm1 (pk K)))))))))))) fun _ w=>
 (S_foliantlaw35_sample_1 t0 w K)))))))∧(CallX prog 54 #[(.string ⟨#[82,111,111,116]⟩)] w (pm1 (pm1 (pm1 (pm1 (pm1 (pm1 (pm1 (pm1 (pm1 (pm1 (pm1 (pk K)))))))))))) fun t54_1 w=>
 S2 w∧((DoX prog (mBuildS 22 5 #[(0,t44),(1,t46),(2,t48),(3,t50),(4,t52)]) w (pm1 (pm1 (pm1 (pm1 (pm1 (pm1 (pm1 (pm1 (pm1 (pm1 (pm1 (pk K)))))))))))) fun t53_1 w=>
 S2 w∧(CallX prog 31 #[(.int .i64 1),(.int .i64 0)] w (pm1 (pm1 (pm1 (pm1 (pm1 (pm1 (pm1 (pm1 (pm1 (pm1 (pm1 (pk K)))))))))))) fun t55_1 w=>
 S2 w∧(DoX prog (mBuildS 24 2 #[(0,t54_1),(1,t55_1)]) w (pm1 (pm1 (pm1 (pm1 (pm1 (pm1 (pm1 (pm1 (pm1 (pm1 (pm1 (pk K)))))))))))) fun t56_1 w=>
 S2 w∧(CallX prog 53 #[t56_1] w (pm1 (pm1 (pm1 (pm1 (pm1 (pm1 (pm1 (pm1 (pm1 (pm1 (pm1 (pk K)))))))))))) fun t57_1 w=>
 S2 w∧(HDo prog (fun _=>True) (mBuild 28 #[(0,t53_1),(1,t57_1)]) fun t58_1=>
 DoX prog (mStore 28 t0 t58_1) w (pm1 (pm1 (pm1 (pm1 (pm1 (pm1 (pm1 (pm1 (pm1 (pm1 (pm1 (pk K)))))))))))) fun _ w=>
 (S_foliantlaw35_sample_1 t0 w K))))))∧(CallX prog 31 #[(.int .i64 1),(.int .i64 0)] w (pm1 (pm1 (pm1 (pm1 (pm1 (pm1 (pm1 (pm1 (pm1 (pm1 (pm1 (pk K)))))))))))) fun t55_2 w=>
 S2 w∧((DoX prog (mBuildS 22 5 #[(0,t44),(1,t46),(2,t48),(3,t50),(4,t52)]) w (pm1 (pm1 (pm1 (pm1 (pm1 (pm1 (pm1 (pm1 (pm1 (pm1 (pm1 (pk K)))))))))))) fun t53_2 w=>
 S2 w∧(DoX prog (mBuildS 24 2 #[(0,t54_1),(1,t55_2)]) w (pm1 (pm1 (pm1 (pm1 (pm1 (pm1 (pm1 (pm1 (pm1 (pm1 (pm1 (pk K)))))))))))) fun t56_2 w=>
 S2 w∧(CallX prog 53 #[t56_2] w (pm1 (pm1 (pm1 (pm1 (pm1 (pm1 (pm1 (pm1 (pm1 (pm1 (pm1 (pk K)))))))))))) fun t57_2 w=>
 S2 w∧(HDo prog (fun _=>True) (mBuild 28 #[(0,t53_2),(1,t57_2)]) fun t58_2=>
 DoX prog (mStore 28 t0 t58_2) w (pm1 (pm1 (pm1 (pm1 (pm1 (pm1 (pm1 (pm1 (pm1 (pm1 (pm1 (pk K)))))))))))) fun _ w=>
 (S_foliantlaw35_sample_1 t0 w K)))))∧(DoX prog (mBuildS 24 2 #[(0,t54_1),(1,t55_2)]) w (pm1 (pm1 (pm1 (pm1 (pm1 (pm1 (pm1 (pm1 (pm1 (pm1 (pm1 (pk K)))))))))))) fun t56_3 w=>
 S2 w∧((DoX prog (mBuildS 22 5 #[(0,t44),(1,t46),(2,t48),(3,t50),(4,t52)]) w (pm1 (pm1 (pm1 (pm1 (pm1 (pm1 (pm1 (pm1 (pm1 (pm1 (pm1 (pk K)))))))))))) fun t53_3 w=>
 S2 w∧(CallX prog 53 #[t56_3] w (pm1 (pm1 (pm1 (pm1 (pm1 (pm1 (pm1 (pm1 (pm1 (pm1 (pm1 (pk K)))))))))))) fun t57_3 w=>
 S2 w∧(HDo prog (fun _=>True) (mBuild 28 #[(0,t53_3),(1,t57_3)]) fun t58_3=>
 DoX prog (mStore 28 t0 t58_3) w (pm1 (pm1 (pm1 (pm1 (pm1 (pm1 (pm1 (pm1 (pm1 (pm1 (pm1 (pk K)))))))))))) fun _ w=>
 (S_foliantlaw35_sample_1 t0 w K))))∧(CallX prog 53 #[t56_3] w (pm1 (pm1 (pm1 (pm1 (pm1 (pm1 (pm1 (pm1 (pm1 (pm1 (pm1 (pk K)))))))))))) fun t57_4 w=>
 S2 w∧(DoX prog (mBuildS 22 5 #[(0,t44),(1,t46),(2,t48),(3,t50),(4,t52)]) w (pm1 (pm1 (pm1 (pm1 (pm1 (pm1 (pm1 (pm1 (pm1 (pm1 (pm1 (pk K)))))))))))) fun t53_4 w=>
 S2 w∧(HDo prog (fun _=>True) (mBuild 28 #[(0,t53_4),(1,t57_4)]) fun t58_4=>
 DoX prog (mStore 28 t0 t58_4) w (pm1 (pm1 (pm1 (pm1 (pm1 (pm1 (pm1 (pm1 (pm1 (pm1 (pm1 (pk K)))))))))))) fun _ w=>
 (S_foliantlaw35_sample_1 t0 w K)))))))))))
def S_foliantlaw35_sample (w:World)(K:Ending→World→Prop):Prop:=
 DoX prog (mAlloc 28) w (pk K) fun t0 w=>
 CallX prog 31 #[(.int .i64 2),(.int .i64 0)] w (pk K) fun t6 w=>
 DoX prog (mAlloc 26) w (pk K) fun t1 w=>
 DoX prog (mStore 26 t1 t6) w (pk K) fun _ w=>
 HeldX w (fun S1 w=>
 HDo prog S1 (mLoad 26 t1) fun t10=>
 (CallX prog 54 #[(.string ⟨#[84,121,112,101]⟩)] w (pm1 (pk K)) fun t7 w=>
 S1 w∧((CallX prog 54 #[(.string ⟨#[67,97,116,97,108,111,103]⟩)] w (pm1 (pk K)) fun t8 w=>
 S1 w∧((CallX prog 54 #[(.string ⟨#[80,97,103,101,115]⟩)] w (pm1 (pk K)) fun t9 w=>
 S1 w∧((DoX prog (mBuildS 24 4 #[(0,t7),(1,t8),(2,t9),(3,t10)]) w (pm1 (pk K)) fun t11 w=>
 ((CallX prog 53 #[t11] w (pm1 (pk K)) fun t12 w=>
 S1 w∧(DoX prog (mAlloc 26) w (pm1 (pk K)) fun t2 w=>
 S1 w∧(DoX prog (mStore 26 t2 t12) w (pm1 (pk K)) fun _ w=>
 (S_foliantlaw35_sample_0 t0 t2 w K))))∧(DoX prog (mAlloc 26) w (pm1 (pk K)) fun t2_1 w=>
 S1 w∧(CallX prog 53 #[t11] w (pm1 (pk K)) fun t12_1 w=>
 S1 w∧(DoX prog (mStore 26 t2_1 t12_1) w (pm1 (pk K)) fun _ w=>
 (S_foliantlaw35_sample_0 t0 t2_1 w K))))))∧(DoX prog (mAlloc 26) w (pm1 (pk K)) fun t2_2 w=>
 S1 w∧(DoX prog (mBuildS 24 4 #[(0,t7),(1,t8),(2,t9),(3,t10)]) w (pm1 (pk K)) fun t11_1 w=>
 (CallX prog 53 #[t11_1] w (pm1 (pk K)) fun t12_2 w=>
 S1 w∧(DoX prog (mStore 26 t2_2 t12_2) w (pm1 (pk K)) fun _ w=>
 (S_foliantlaw35_sample_0 t0 t2_2 w K)))))))∧(DoX prog (mAlloc 26) w (pm1 (pk K)) fun t2_3 w=>
 S1 w∧(CallX prog 54 #[(.string ⟨#[80,97,103,101,115]⟩)] w (pm1 (pk K)) fun t9_1 w=>
 S1 w∧(DoX prog (mBuildS 24 4 #[(0,t7),(1,t8),(2,t9_1),(3,t10)]) w (pm1 (pk K)) fun t11_2 w=>
 (CallX prog 53 #[t11_2] w (pm1 (pk K)) fun t12_3 w=>
 S1 w∧(DoX prog (mStore 26 t2_3 t12_3) w (pm1 (pk K)) fun _ w=>
 (S_foliantlaw35_sample_0 t0 t2_3 w K))))))))∧(DoX prog (mAlloc 26) w (pm1 (pk K)) fun t2_4 w=>
 S1 w∧(CallX prog 54 #[(.string ⟨#[67,97,116,97,108,111,103]⟩)] w (pm1 (pk K)) fun t8_1 w=>
 S1 w∧(CallX prog 54 #[(.string ⟨#[80,97,103,101,115]⟩)] w (pm1 (pk K)) fun t9_2 w=>
 S1 w∧(DoX prog (mBuildS 24 4 #[(0,t7),(1,t8_1),(2,t9_2),(3,t10)]) w (pm1 (pk K)) fun t11_3 w=>
 (CallX prog 53 #[t11_3] w (pm1 (pk K)) fun t12_4 w=>
 S1 w∧(DoX prog (mStore 26 t2_4 t12_4) w (pm1 (pk K)) fun _ w=>
 (S_foliantlaw35_sample_0 t0 t2_4 w K)))))))))∧(DoX prog (mAlloc 26) w (pm1 (pk K)) fun t2_5 w=>
 S1 w∧(CallX prog 54 #[(.string ⟨#[84,121,112,101]⟩)] w (pm1 (pk K)) fun t7_1 w=>
 S1 w∧(CallX prog 54 #[(.string ⟨#[67,97,116,97,108,111,103]⟩)] w (pm1 (pk K)) fun t8_2 w=>
 S1 w∧(CallX prog 54 #[(.string ⟨#[80,97,103,101,115]⟩)] w (pm1 (pk K)) fun t9_3 w=>
 S1 w∧(DoX prog (mBuildS 24 4 #[(0,t7_1),(1,t8_2),(2,t9_3),(3,t10)]) w (pm1 (pk K)) fun t11_4 w=>
 (CallX prog 53 #[t11_4] w (pm1 (pk K)) fun t12_5 w=>
 S1 w∧(DoX prog (mStore 26 t2_5 t12_5) w (pm1 (pk K)) fun _ w=>
 (S_foliantlaw35_sample_0 t0 t2_5 w K)))))))))
theorem S_foliantlaw35_sample_eq (w:World)(K:Ending→World→Prop):wpX prog 59 [] [] none (bodyOf Tryz.f28) (topQ prog [.cell 0 28] K) (startX []) [] w=S_foliantlaw35_sample w K:=by kernel_rfl
theorem S_foliantlaw35_sample_ok {w:World}{K:Ending→World→Prop}(h:S_foliantlaw35_sample w K):Calls prog 28 #[] w K:=
 calls_of_wpX Tryz.func28 rfl rfl rfl rfl (Eq.mpr (S_foliantlaw35_sample_eq w K) h)
def S_foliantlaw35_lives_0 (t2 t3 t4 t5 t6 t7 t9 t10 t11 t13 t14 t15 t17:Value)(w:World)(K:Ending→World→Prop):Prop:=
 DoX prog (mBuild 28 #[]) w (pk K) fun t66 w=>
 CallX prog 10 #[t66] w (pk K) fun t67 w=>
 DoX prog (mExt t67 0) w (pk K) fun t68 w=>
 DoX prog (mExt t67 1) w (pk K) fun t69 w=>
 DoX prog (mEq .eql 3 (.tmp 70) (.const (.int .i64 2)) t2 (.int .i64 2)) w (pk K) fun t71 w=>
 GDo t71 true (fun E=>E t3 w) w fun t73 w=>
 GDo t71 true (fun E=>DoX prog (mEq .eql 32 (.tmp 73) (.const (.int .i64 0)) t73 (.int .i64 0)) w (pk K) E) w fun t74 w=>
 DoX prog (mPick t71 t74 (.bool false)) w (pk K) fun t75 w=>
 GDo t75 true (fun E=>E t5 w) w fun t77 w=>
 GDo t75 true (fun E=>DoX prog (mEq .eql 32 (.tmp 77) (.const (.int .i64 0)) t77 (.int .i64 0)) w (pk K) E) w fun t78 w=>
 DoX prog (mPick t75 t78 (.bool false)) w (pk K) fun t79 w=>
 GDo t79 true (fun E=>DoX prog (mFA 48 t4 0) w (pk K) E) w fun t81 w=>
 GDo t79 true (fun E=>DoX prog (mLoad 3 t81) w (pk K) E) w fun t82 w=>
 GDo t79 true (fun E=>DoX prog (mEq .eql 3 (.tmp 82) (.const (.int .i64 3)) t82 (.int .i64 3)) w (pk K) E) w fun t83 w=>
 DoX prog (mPick t79 t83 (.bool false)) w (pk K) fun t84 w=>
 GDo t84 true (fun E=>DoX prog (mFA 48 t4 1) w (pk K) E) w fun t86 w=>
 GDo t84 true (fun E=>DoX prog (mLoad 43 t86) w (pk K) E) w fun t87 w=>
 GDo t84 true (fun E=>DoX prog (mBuild 43 #[(0,(.int .i64 10000)),(1,(.int .i64 20000)),(2,(.int .i64 30000)),(3,(.int .i64 40000))]) w (pk K) E) w fun t88 w=>
 GDo t84 true (fun E=>DoX prog (mEq .eql 43 (.tmp 87) (.tmp 88) t87 t88) w (pk K) E) w fun t89 w=>
 DoX prog (mPick t84 t89 (.bool false)) w (pk K) fun t90 w=>
 GDo t90 true (fun E=>DoX prog (mFA 48 t4 2) w (pk K) E) w fun t92 w=>
 GDo t90 true (fun E=>DoX prog (mLoad 43 t92) w (pk K) E) w fun t93 w=>
 GDo t90 true (fun E=>DoX prog (mFA 48 t4 1) w (pk K) E) w fun t94 w=>
 GDo t90 true (fun E=>DoX prog (mLoad 43 t94) w (pk K) E) w fun t95 w=>
 GDo t90 true (fun E=>DoX prog (mEq .eql 43 (.tmp 93) (.tmp 95) t93 t95) w (pk K) E) w fun t96 w=>
 DoX prog (mPick t90 t96 (.bool false)) w (pk K) fun t97 w=>
 GDo t97 true (fun E=>E t7 w) w fun t99 w=>
 GDo t97 true (fun E=>DoX prog (mEq .eql 32 (.tmp 99) (.const (.int .i64 0)) t99 (.int .i64 0)) w (pk K) E) w fun t100 w=>
 DoX prog (mPick t97 t100 (.bool false)) w (pk K) fun t101 w=>
 GDo t101 true (fun E=>DoX prog (mFA 48 t6 2) w (pk K) E) w fun t103 w=>
 GDo t101 true (fun E=>DoX prog (mLoad 43 t103) w (pk K) E) w fun t104 w=>
 GDo t101 true (fun E=>DoX prog (mBuild 43 #[(0,(.int .i64 50000)),(1,(.int .i64 50000)),(2,(.int .i64 90000)),(3,(.int .i64 90000))]) w (pk K) E) w fun t105 w=>
 GDo t101 true (fun E=>DoX prog (mEq .eql 43 (.tmp 104) (.tmp 105) t104 t105) w (pk K) E) w fun t106 w=>
 DoX prog (mPick t101 t106 (.bool false)) w (pk K) fun t107 w=>
 GDo t107 true (fun E=>DoX prog (mFA 48 t6 3) w (pk K) E) w fun t109 w=>
 GDo t107 true (fun E=>DoX prog (mLoad 3 t109) w (pk K) E) w fun t110 w=>
 GDo t107 true (fun E=>DoX prog (mEq .eql 3 (.tmp 110) (.const (.int .i64 270)) t110 (.int .i64 270)) w (pk K) E) w fun t111 w=>
 DoX prog (mPick t107 t111 (.bool false)) w (pk K) fun t112 w=>
 GDo t112 true (fun E=>DoX prog (mFA 48 t6 4) w (pk K) E) w fun t114 w=>
 GDo t112 true (fun E=>DoX prog (mFA 26 t114 0) w (pk K) E) w fun t115 w=>
 GDo t112 true (fun E=>DoX prog (mLoad 3 t115) w (pk K) E) w fun t116 w=>
 GDo t112 true (fun E=>DoX prog (mEq .eql 3 (.tmp 116) (.const (.int .i64 7)) t116 (.int .i64 7)) w (pk K) E) w fun t117 w=>
 DoX prog (mPick t112 t117 (.bool false)) w (pk K) fun t118 w=>
 GDo t118 true (fun E=>E t9 w) w fun t120 w=>
 GDo t118 true (fun E=>DoX prog (mEq .eql 32 (.tmp 120) (.const (.int .i64 8)) t120 (.int .i64 8)) w (pk K) E) w fun t121 w=>
 DoX prog (mPick t118 t121 (.bool false)) w (pk K) fun t122 w=>
 GDo t122 true (fun E=>E t10 w) w fun t124 w=>
 GDo t122 true (fun E=>DoX prog (mEq .eql 3 (.tmp 124) (.const (.int .i64 1)) t124 (.int .i64 1)) w (pk K) E) w fun t125 w=>
 DoX prog (mPick t122 t125 (.bool false)) w (pk K) fun t126 w=>
 GDo t126 true (fun E=>E t11 w) w fun t128 w=>
 DoX prog (mPick t126 t128 (.bool false)) w (pk K) fun t129 w=>
 GDo t129 true (fun E=>E t13 w) w fun t131 w=>
 GDo t129 true (fun E=>DoX prog (mUn .not t131) w (pk K) E) w fun t132 w=>
 DoX prog (mPick t129 t132 (.bool false)) w (pk K) fun t133 w=>
 GDo t133 true (fun E=>E t14 w) w fun t135 w=>
 GDo t133 true (fun E=>DoX prog (mEq .eql 9 (.tmp 135) (.const (.string ⟨#[113,10,113]⟩)) t135 (.string ⟨#[113,10,113]⟩)) w (pk K) E) w fun t136 w=>
 DoX prog (mPick t133 t136 (.bool false)) w (pk K) fun t137 w=>
 GDo t137 true (fun E=>E t15 w) w fun t139 w=>
 GDo t137 true (fun E=>DoX prog (mEq .eql 32 (.tmp 139) (.const (.int .i64 0)) t139 (.int .i64 0)) w (pk K) E) w fun t140 w=>
 DoX prog (mPick t137 t140 (.bool false)) w (pk K) fun t141 w=>
 GDo t141 true (fun E=>E t17 w) w fun t143 w=>
 GDo t141 true (fun E=>DoX prog (mEq .eql 32 (.tmp 143) (.const (.int .i64 3)) t143 (.int .i64 3)) w (pk K) E) w fun t144 w=>
 DoX prog (mPick t141 t144 (.bool false)) w (pk K) fun t145 w=>
 GDo t145 true (fun E=>E t69 w) w fun t147 w=>
 GDo t145 true (fun E=>DoX prog (mEq .eql 32 (.tmp 147) (.const (.int .i64 10)) t147 (.int .i64 10)) w (pk K) E) w fun t148 w=>
 DoX prog (mPick t145 t148 (.bool false)) w (pk K) fun t149 w=>
 K (.returned t149) w
def S_foliantlaw35_lives (w:World)(K:Ending→World→Prop):Prop:=
 CallX prog 28 #[] w (pk K) fun t20 w=>
 DoX prog (mAlloc 28) w (pk K) fun t1 w=>
 DoX prog (mStore 28 t1 t20) w (pk K) fun _ w=>
 DoX prog (mLoad 28 t1) w (pk K) fun t22 w=>
 CallX prog 12 #[t22] w (pk K) fun t23 w=>
 DoX prog (mExt t23 0) w (pk K) fun t24 w=>
 DoX prog (mExt t23 1) w (pk K) fun t25 w=>
 DoX prog (mLoad 28 t1) w (pk K) fun t27 w=>
 CallX prog 20 #[t27,(.int .i64 0)] w (pk K) fun t28 w=>
 DoX prog (mExt t28 0) w (pk K) fun t29 w=>
 DoX prog (mExt t28 1) w (pk K) fun t30 w=>
 DoX prog (mAlloc 48) w (pk K) fun t4 w=>
 DoX prog (mStore 48 t4 t29) w (pk K) fun _ w=>
 DoX prog (mLoad 28 t1) w (pk K) fun t32 w=>
 CallX prog 20 #[t32,(.int .i64 1)] w (pk K) fun t33 w=>
 DoX prog (mExt t33 0) w (pk K) fun t34 w=>
 DoX prog (mExt t33 1) w (pk K) fun t35 w=>
 DoX prog (mAlloc 48) w (pk K) fun t6 w=>
 DoX prog (mStore 48 t6 t34) w (pk K) fun _ w=>
 DoX prog (mLoad 28 t1) w (pk K) fun t37 w=>
 CallX prog 20 #[t37,(.int .i64 2)] w (pk K) fun t38 w=>
 DoX prog (mExt t38 0) w (pk K) fun t39 w=>
 DoX prog (mExt t38 1) w (pk K) fun t40 w=>
 DoX prog (mAlloc 48) w (pk K) fun t8 w=>
 DoX prog (mStore 48 t8 t39) w (pk K) fun _ w=>
 DoX prog (mLoad 28 t1) w (pk K) fun t42 w=>
 CallX prog 14 #[t42,(.int .i64 4)] w (pk K) fun t43 w=>
 DoX prog (mExt t43 0) w (pk K) fun t44 w=>
 DoX prog (mExt t43 1) w (pk K) fun t45 w=>
 DoX prog (mLoad 28 t1) w (pk K) fun t47 w=>
 CallX prog 14 #[t47,(.int .i64 2)] w (pk K) fun t48 w=>
 DoX prog (mExt t48 0) w (pk K) fun t49 w=>
 DoX prog (mExt t48 1) w (pk K) fun t50 w=>
 DoX prog (mLoad 28 t1) w (pk K) fun t52 w=>
 CallX prog 32 #[t52,(.int .i64 0)] w (pk K) fun t53 w=>
 DoX prog (mExt t53 0) w (pk K) fun t54 w=>
 DoX prog (mExt t53 1) w (pk K) fun t55 w=>
 HeldX w (fun S1 w=>
 HDo prog S1 (mLoad 28 t1) fun t57=>
 (CallX prog 34 #[(.int .i64 1),(.int .i64 2),(.int .i64 3),(.int .i64 4)] w (pm1 (pm1 (pm1 (pm1 (pm1 (pm1 (pm1 (pk K)))))))) fun t58 w=>
 S1 w∧(HDo prog (fun _=>True) (mFld 26 t58 5) fun t59=>
 HDo prog (fun _=>True) (mIA 24 t59 (.int .i64 0)) fun t60=>
 (DoX prog (mLoad 26 t60) w (pm1 (pm1 (pm1 (pm1 (pm1 (pm1 (pm1 (pk K)))))))) fun t61 w=>
 S1 w∧((CallX prog 18 #[t57,t61] w (pm1 (pm1 (pm1 (pm1 (pm1 (pm1 (pm1 (pk K)))))))) fun t62 w=>
 (HDo prog (fun _=>True) (mExt t62 0) fun t63=>
 HDo prog (fun _=>True) (mExt t62 1) fun t64=>
 DoX prog (mAlloc 43) w (pm1 (pm1 (pm1 (pm1 (pm1 (pm1 (pm1 (pk K)))))))) fun t16 w=>
 S1 w∧(DoX prog (mStore 43 t16 t63) w (pm1 (pm1 (pm1 (pm1 (pm1 (pm1 (pm1 (pk K)))))))) fun _ w=>
 (S_foliantlaw35_lives_0 t24 t25 t4 t30 t6 t35 t40 t44 t45 t50 t54 t55 t64 w K))))∧(DoX prog (mAlloc 43) w (pm1 (pm1 (pm1 (pm1 (pm1 (pm1 (pm1 (pk K)))))))) fun t16_1 w=>
 S1 w∧(CallX prog 18 #[t57,t61] w (pm1 (pm1 (pm1 (pm1 (pm1 (pm1 (pm1 (pk K)))))))) fun t62_1 w=>
 (HDo prog (fun _=>True) (mExt t62_1 0) fun t63_1=>
 HDo prog (fun _=>True) (mExt t62_1 1) fun t64_1=>
 DoX prog (mStore 43 t16_1 t63_1) w (pm1 (pm1 (pm1 (pm1 (pm1 (pm1 (pm1 (pk K)))))))) fun _ w=>
 (S_foliantlaw35_lives_0 t24 t25 t4 t30 t6 t35 t40 t44 t45 t50 t54 t55 t64_1 w K))))))∧(DoX prog (mAlloc 43) w (pm1 (pm1 (pm1 (pm1 (pm1 (pm1 (pm1 (pk K)))))))) fun t16_2 w=>
 S1 w∧(DoX prog (mLoad 26 t60) w (pm1 (pm1 (pm1 (pm1 (pm1 (pm1 (pm1 (pk K)))))))) fun t61_1 w=>
 S1 w∧(CallX prog 18 #[t57,t61_1] w (pm1 (pm1 (pm1 (pm1 (pm1 (pm1 (pm1 (pk K)))))))) fun t62_2 w=>
 (HDo prog (fun _=>True) (mExt t62_2 0) fun t63_2=>
 HDo prog (fun _=>True) (mExt t62_2 1) fun t64_2=>
 DoX prog (mStore 43 t16_2 t63_2) w (pm1 (pm1 (pm1 (pm1 (pm1 (pm1 (pm1 (pk K)))))))) fun _ w=>
 (S_foliantlaw35_lives_0 t24 t25 t4 t30 t6 t35 t40 t44 t45 t50 t54 t55 t64_2 w K)))))))∧(DoX prog (mAlloc 43) w (pm1 (pm1 (pm1 (pm1 (pm1 (pm1 (pm1 (pk K)))))))) fun t16_3 w=>
 S1 w∧(CallX prog 34 #[(.int .i64 1),(.int .i64 2),(.int .i64 3),(.int .i64 4)] w (pm1 (pm1 (pm1 (pm1 (pm1 (pm1 (pm1 (pk K)))))))) fun t58_1 w=>
 S1 w∧(HDo prog (fun _=>True) (mFld 26 t58_1 5) fun t59_1=>
 HDo prog (fun _=>True) (mIA 24 t59_1 (.int .i64 0)) fun t60_1=>
 DoX prog (mLoad 26 t60_1) w (pm1 (pm1 (pm1 (pm1 (pm1 (pm1 (pm1 (pk K)))))))) fun t61_2 w=>
 S1 w∧(CallX prog 18 #[t57,t61_2] w (pm1 (pm1 (pm1 (pm1 (pm1 (pm1 (pm1 (pk K)))))))) fun t62_3 w=>
 (HDo prog (fun _=>True) (mExt t62_3 0) fun t63_3=>
 HDo prog (fun _=>True) (mExt t62_3 1) fun t64_3=>
 DoX prog (mStore 43 t16_3 t63_3) w (pm1 (pm1 (pm1 (pm1 (pm1 (pm1 (pm1 (pk K)))))))) fun _ w=>
 (S_foliantlaw35_lives_0 t24 t25 t4 t30 t6 t35 t40 t44 t45 t50 t54 t55 t64_3 w K)))))))
theorem S_foliantlaw35_lives_eq (w:World)(K:Ending→World→Prop):wpX prog 150 [] [] none (bodyOf Tryz.f9) (topQ prog [.tmp 0] K) (startX []) [] w=S_foliantlaw35_lives w K:=by kernel_rfl
theorem S_foliantlaw35_lives_ok {w:World}{K:Ending→World→Prop}(h:S_foliantlaw35_lives w K):Calls prog 9 #[] w K:=
 calls_of_wpX Tryz.func9 rfl rfl rfl rfl (Eq.mpr (S_foliantlaw35_lives_eq w K) h)
def S_foliantlaw35_small (t0:Value)(w:World)(K:Ending→World→Prop):Prop:=
 DoX prog (mBox 28 t0) w (pk K) fun t1 w=>
 DoX prog (mFA 28 t1 0) w (pk K) fun t3 w=>
 DoX prog (mLoad 22 t3) w (pk K) fun t4 w=>
 DoX prog (mB .len #[22] 3 #[false] #[t4]) w (pk K) fun t5 w=>
 DoX prog (mBin .leq 3 t5 (.int .i64 40)) w (pk K) fun t6 w=>
 GDo t6 true (fun E=>DoX prog (mLoad 28 t1) w (pk K) E) w fun t8 w=>
 GDo t6 true (fun E=>CallX prog 33 #[t8] w (pk K) E) w fun t9 w=>
 GDo t6 true (fun E=>DoX prog (mBin .leq 3 t9 (.int .i64 3000)) w (pk K) E) w fun t10 w=>
 DoX prog (mPick t6 t10 (.bool false)) w (pk K) fun t11 w=>
 K (.returned t11) w
theorem S_foliantlaw35_small_eq (t0:Value)(w:World)(K:Ending→World→Prop):wpX prog 12 [] [] none (bodyOf Tryz.f8) (topQ prog [.tmp 2] K) (startX [t0]) [] w=S_foliantlaw35_small t0 w K:=by kernel_rfl
theorem S_foliantlaw35_small_ok {t0:Value}{w:World}{K:Ending→World→Prop}(h:S_foliantlaw35_small t0 w K):Calls prog 8 #[t0] w K:=
 calls_of_wpX Tryz.func8 rfl rfl rfl rfl (Eq.mpr (S_foliantlaw35_small_eq t0 w K) h)
def S_foliantlaw35_PagesList (t0 t1:Value)(w:World)(K:Ending→World→Prop):Prop:=
 DoX prog (mBox 28 t0) w (pk K) fun t2 w=>
 DoX prog (mLoad 28 t2) w (pk K) fun t17 w=>
 CallX prog 8 #[t17] w (pk K) fun t18 w=>
 DoX prog (mUn .not t18) w (pk K) fun t19 w=>
 IfX t19 (CallX prog 9 #[] w (pk K) fun t20 w=>
 K (.returned t20) w) (DoX prog (mLoad 28 t2) w (pk K) fun t22 w=>
 CallX prog 10 #[t22] w (pk K) fun t23 w=>
 DoX prog (mExt t23 0) w (pk K) fun t24 w=>
 DoX prog (mExt t23 1) w (pk K) fun t25 w=>
 DoX prog (mLoad 28 t2) w (pk K) fun t27 w=>
 CallX prog 11 #[t27] w (pk K) fun t28 w=>
 DoX prog (mExt t28 0) w (pk K) fun t29 w=>
 DoX prog (mExt t28 1) w (pk K) fun t30 w=>
 DoX prog (mLoad 28 t2) w (pk K) fun t32 w=>
 CallX prog 12 #[t32] w (pk K) fun t33 w=>
 DoX prog (mExt t33 0) w (pk K) fun t34 w=>
 DoX prog (mExt t33 1) w (pk K) fun t35 w=>
 DoX prog (mLoad 28 t2) w (pk K) fun t37 w=>
 CallX prog 13 #[t37] w (pk K) fun t38 w=>
 DoX prog (mExt t38 0) w (pk K) fun t39 w=>
 DoX prog (mExt t38 1) w (pk K) fun t40 w=>
 DoX prog (mLoad 28 t2) w (pk K) fun t42 w=>
 CallX prog 14 #[t42,t1] w (pk K) fun t44 w=>
 DoX prog (mExt t44 0) w (pk K) fun t45 w=>
 DoX prog (mExt t44 1) w (pk K) fun t46 w=>
 DoX prog (mLoad 28 t2) w (pk K) fun t48 w=>
 CallX prog 15 #[t48,t1] w (pk K) fun t50 w=>
 DoX prog (mExt t50 0) w (pk K) fun t51 w=>
 DoX prog (mExt t50 1) w (pk K) fun t52 w=>
 CallX prog 16 #[t24,t29] w (pk K) fun t55 w=>
 GDo t55 true (fun E=>E t25 w) w fun t57 w=>
 GDo t55 true (fun E=>E t30 w) w fun t58 w=>
 GDo t55 true (fun E=>DoX prog (mEq .eql 32 (.tmp 57) (.tmp 58) t57 t58) w (pk K) E) w fun t59 w=>
 DoX prog (mPick t55 t59 (.bool false)) w (pk K) fun t60 w=>
 GDo t60 true (fun E=>E t34 w) w fun t62 w=>
 GDo t60 true (fun E=>E t39 w) w fun t63 w=>
 GDo t60 true (fun E=>DoX prog (mEq .eql 3 (.tmp 62) (.tmp 63) t62 t63) w (pk K) E) w fun t64 w=>
 DoX prog (mPick t60 t64 (.bool false)) w (pk K) fun t65 w=>
 GDo t65 true (fun E=>E t35 w) w fun t67 w=>
 GDo t65 true (fun E=>E t40 w) w fun t68 w=>
 GDo t65 true (fun E=>DoX prog (mEq .eql 32 (.tmp 67) (.tmp 68) t67 t68) w (pk K) E) w fun t69 w=>
 DoX prog (mPick t65 t69 (.bool false)) w (pk K) fun t70 w=>
 GDo t70 true (fun E=>E t45 w) w fun t72 w=>
 GDo t70 true (fun E=>E t51 w) w fun t73 w=>
 GDo t70 true (fun E=>DoX prog (mEq .eql 3 (.tmp 72) (.tmp 73) t72 t73) w (pk K) E) w fun t74 w=>
 DoX prog (mPick t70 t74 (.bool false)) w (pk K) fun t75 w=>
 GDo t75 true (fun E=>E t46 w) w fun t77 w=>
 GDo t75 true (fun E=>E t52 w) w fun t78 w=>
 GDo t75 true (fun E=>DoX prog (mEq .eql 4 (.tmp 77) (.tmp 78) t77 t78) w (pk K) E) w fun t79 w=>
 DoX prog (mPick t75 t79 (.bool false)) w (pk K) fun t80 w=>
 GDo t80 true (fun E=>CallX prog 9 #[] w (pk K) E) w fun t82 w=>
 DoX prog (mPick t80 t82 (.bool false)) w (pk K) fun t83 w=>
 K (.returned t83) w)
theorem S_foliantlaw35_PagesList_eq (t0 t1:Value)(w:World)(K:Ending→World→Prop):wpX prog 84 [] [] none (bodyOf Tryz.f3) (topQ prog [.tmp 4] K) (startX [t0,t1]) [] w=S_foliantlaw35_PagesList t0 t1 w K:=by kernel_rfl
theorem S_foliantlaw35_PagesList_ok {t0 t1:Value}{w:World}{K:Ending→World→Prop}(h:S_foliantlaw35_PagesList t0 t1 w K):Calls prog 3 #[t0,t1] w K:=
 calls_of_wpX Tryz.func3 rfl rfl rfl rfl (Eq.mpr (S_foliantlaw35_PagesList_eq t0 t1 w K) h)
end
section
open Eng Go.RowKit
namespace Pg
def flat (prs:List (List UInt8×Ob)):List Ob:=prs.flatMap fun p=>[nameO p.1,p.2]
def dictF (prs:List (List UInt8×Ob)):Ob:=prs.foldl (fun o p=>Vl.put o p.1 p.2) dict0
theorem flat_len:∀prs:List (List UInt8×Ob),(flat prs).length=2*prs.length
|[]=>rfl
|p::l=>by
  have:=flat_len l;unfold flat at this ⊢;rw[List.flatMap_cons,List.length_append,this,List.length_cons];simp;omega
theorem flat_at:∀(prs:List (List UInt8×Ob)) (i:Nat) (h:i < prs.length),(flat prs)[2*i]?=some (nameO prs[i].1)∧(flat prs)[2*i+1]?=some prs[i].2
|p::l,0,h=>⟨rfl,rfl⟩
|p::l,i+1,h=>by
  have:=flat_at l i (by simpa using h);unfold flat at this ⊢;rw[List.flatMap_cons,show 2*(i+1)=2*i+2 by omega,show 2*i+2+1=2*i+1+2 by omega];exact this
theorem dictF_take {prs:List (List UInt8×Ob)}{i:Nat}(h:i < prs.length):dictF (prs.take (i+1))=Vl.put (dictF (prs.take i)) prs[i].1 prs[i].2:=by
 unfold dictF;rw[List.take_succ_eq_append_getElem h,List.foldl_append];rfl
theorem dictF_lens:∀(prs:List (List UInt8×Ob)) (o:Ob),o.keys.length=o.kids.length→(prs.foldl (fun o p=>Vl.put o p.1 p.2) o).keys.length=(prs.foldl (fun o p=>Vl.put o p.1 p.2) o).kids.length
|[],o,h=>h
|p::l,o,h=>dictF_lens l _ (Vl.put_lens h)
def wtP (prs:List (List UInt8×Ob)):Nat:=(prs.map fun p=>p.1.length+1+p.2.wt).sum
theorem dictF_wt:∀(prs:List (List UInt8×Ob)) (o:Ob),(prs.foldl (fun o p=>Vl.put o p.1 p.2) o).wt≤o.wt+wtP prs
|[],o=>by simp[wtP]
|p::l,o=>by
  have h1:=dictF_wt l (Vl.put o p.1 p.2);have h2:=Vl.put_wt o p.1 p.2;simp only[List.foldl_cons,wtP,List.map_cons,List.sum_cons] at h1 ⊢;omega
theorem wtP_take (prs:List (List UInt8×Ob))(i:Nat):wtP (prs.take i)≤wtP prs:=by
 conv=>rhs;rw[←List.take_append_drop i prs]
 unfold wtP;rw[List.map_append,List.sum_append];omega
end Pg
theorem chn_cells {M:Mem}{v:Value}{l:List Ob}(h:Chn M.A M.w v l){i:Nat}{o:Ob}(hi:l[i]?=some o) :
  ∃xk xc b off,OV M.A M.w (obV o xk xc) o∧(∀W,(mIA 24 v (.int .i64 (i:Int))).run prog W=.ok (.value (.pointer (some ⟨b,off,none⟩))) W)∧∀W,M.has W→∀j u,(obC o xk xc)[j]?=some u→W.cell? ⟨b,off+j,none⟩=some u:=by
 obtain⟨hlt,rfl⟩:=List.getElem?_eq_some_iff.1 hi;obtain⟨cs,h1,h2⟩:=h;obtain⟨b,off,cap,rfl,_⟩:=sl_open h1.1 (by omega);obtain⟨a,hl,hov,hget⟩:=OVs.get _ _ i hlt h2;obtain⟨xk,xc,xcs,he,hxa⟩:=hov.open;have ha:a=obC l[i] xk xc:=by
  have:a.toArray=(obC l[i] xk xc).toArray:=by injection he
  simpa using congrArg Array.toList this
 refine⟨xk,xc,b,off+i*6,hxa.ov,fun W=>?_,fun W hW j u hj=>?_⟩
 ·refine (run_ia Tryz.underlying24 szOb (by omega) (by omega)).trans ?_;rw[Int.toNat_natCast]
 ·obtain⟨b',off',cap',e,hc⟩:=sl_open (h1.now hW) (by omega);cases e;rw[Nat.add_assoc];exact hc _ _ (hget j u (by rw[ha];exact hj))
theorem rdict5_ret (prs:List (List UInt8×Ob))(v:Value)(M:Mem)(w:World)(hn:(prs.map (·.1)).Nodup)(h0:∀p∈prs,p.2.k≠0)(hl:prs.length≤1000)(hw:Pg.wtP prs≤100000000)(hM:M.has w)(hc:Chn M.A M.w v (Pg.flat prs)) :
  RetM prog 83 #[v] M w (fun r N=>∃v',r=errV v' (Vl.right (Pg.dictF prs)).2∧OV N.A N.w v' (Vl.right (Pg.dictF prs)).1):=by
 refine retM_of hM fun K hK=>S_foliantref05_Dict_ok ?_;unfold S_foliantref05_Dict;refine o_oba (OwnS.memS hM) fun b2 w1 ho=>?_;have hfl:=Pg.flat_len prs;rw[hc.len (ho.hasM 1 rfl)];rw[b_rem (by omega),Int.tmod_eq_emod_of_nonneg (by omega)];simp only[rs];rw[decide_eq_false (by omega),i_f];refine loop (fun vs W=>∃(i:Nat) (z:Value),vs=[z,.int .i64 ((2*i:Nat):Int)]∧i≤prs.length∧OwnS M.A w W [obE b2 ob0 nilS nilS,.mem M]) (fun vs _=>2*prs.length - n1 vs) ⟨0,_,rfl,by omega,ho⟩ ?_;clear ho;rintro vs w2 ⟨i,z,rfl,hi,ho⟩ _;simp only[S_foliantref05_Dict_0,gd];rw[hc.len (ho.hasM 1 rfl)];simp only[rs];by_cases hlt:((2*i:Nat):Int) < ((Pg.flat prs).length:Int)
 ·have hi':i < prs.length:=by omega
  simp only[hlt,decide_true,i_t];obtain⟨xk,xc,b,off,hx,r1,r2⟩:=chn_cells hc (Pg.flat_at prs i hi').1;refine do_eq (r1 w2) |>.mpr ?_;rw[fa_o0];refine do_eq (run_load_cell nInt5 (r2 w2 (ho.hasM 1 rfl) 0 _ rfl)) |>.mpr ?_;simp only[rs,Pg.nameO,Ob.k,show decide ((5:Int)≠5)=false by decide];rw[wrap64_id (by omega) (by omega),show ((2*i:Nat):Int)+2=((2*(i+1):Nat):Int) by omega];exact nextX ⟨i+1,z,rfl,by omega,ho⟩ (by simp[n1,RowKit.intOf];omega)
 simp only[hlt,decide_false,i_f];rw[m_dict];refine o_oba ho fun b5 w3 ho=>?_;refine ob_put 0 rfl rfl ho rfl fun w4 ho=>?_;have hwt:∀i,(Pg.dictF (prs.take i)).wt≤100000100:=fun i=>by
  have h1:=Pg.dictF_wt (prs.take i) Pg.dict0;have h2:=Pg.wtP_take prs i;have h3:Pg.dict0.wt=6:=by rw[Vl.wt_eq];rfl
  unfold Pg.dictF;omega
 refine loop (fun vs W=>∃(i:Nat) (N:Mem) (z dk dc:Value),vs=[z,.int .i64 ((2*i:Nat):Int)]∧i≤prs.length∧M.le N∧OV N.A N.w (obV (Pg.dictF (prs.take i)) dk dc) (Pg.dictF (prs.take i))∧OwnS M.A w W [obE b5 (Pg.dictF (prs.take i)) dk dc,obE b2 ob0 nilS nilS,.mem N]) (fun vs _=>2*prs.length - n1 vs)
  ⟨0,M,_,nilS,nilS,rfl,by omega,M.le_refl,Pg.dict0_ov M,ho⟩ ?_
 clear ho hlt hi;rintro vs w5 ⟨i,N,z,dk,dc,rfl,hi,hle,hd,ho⟩ _;simp only[S_foliantref05_Dict_1,gd];have hcN:=hc.le hle;rw[hcN.len (ho.hasM 2 rfl)];simp only[rs];by_cases hlt:((2*i:Nat):Int) < ((Pg.flat prs).length:Int)
 ·have hi':i < prs.length:=by omega
  simp only[hlt,decide_true,i_t];refine join fun J hJ=>?_;obtain⟨xk,xc,b,off,hx,r1,r2⟩:=chn_cells hcN (Pg.flat_at prs i hi').1;obtain⟨yk,yc,bb,boff,hy,q1,q2⟩:=chn_cells hcN (Pg.flat_at prs i hi').2;refine loop (fun vs W=>∃(m:Nat) (z:Value),vs=[z,.int .i64 ((2*m:Nat):Int)]∧m≤i∧OwnS M.A w W [obE b5 (Pg.dictF (prs.take i)) dk dc,obE b2 ob0 nilS nilS,.mem N]) (fun vs _=>2*i - n1 vs) ⟨0,z,rfl,by omega,ho⟩ ?_;clear ho;rintro vs w6 ⟨m,z2,rfl,hm,ho⟩ _;simp only[S_foliantref05_Dict_2,gd,rs];by_cases hmi:((2*m:Nat):Int) < ((2*i:Nat):Int)
  ·have hm':m < prs.length:=by omega
   simp only[hmi,decide_true,i_t];obtain⟨uk,uc,ub,uoff,hu,s1,s2⟩:=chn_cells hcN (Pg.flat_at prs m hm').1;refine quietC (fun W=>OwnS M.A w W [obE b5 (Pg.dictF (prs.take i)) dk dc,obE b2 ob0 nilS nilS,.mem N]) ho.drew ?_;refine q_do _ s1 (q_do _ (fun _=>run_fa fo_o3) (q_at (.string ⟨prs[m].1.toArray⟩) (fun W h=>run_load_cell nStr5 (s2 W (h.hasM 2 rfl) 3 _ rfl)) ?_));refine q_do _ r1 (q_do _ (fun _=>run_fa fo_o3) (q_at (.string ⟨prs[i].1.toArray⟩) (fun W h=>run_load_cell nStr5 (r2 W (h.hasM 2 rfl) 3 _ rfl)) (q_seq ?_)));intro w7 ho;have hne:prs[m].1≠prs[i].1:=by
    have h4:=List.pairwise_iff_getElem.1 hn m i (by simpa using hm') (by simpa using hi') (by omega);rw[List.getElem_map,List.getElem_map] at h4;exact h4
   rw[decide_eq_false hne,i_f,wrap64_id (by omega) (by omega),show ((2*m:Nat):Int)+2=((2*(m+1):Nat):Int) by omega];exact nextX ⟨m+1,z2,rfl,by omega,ho⟩ (by simp[n1,RowKit.intOf];omega)
  ·simp only[hmi,decide_false,i_f];rw[wrap64_id (by omega) (by omega),show ((2*i:Nat):Int)+1=((2*i+1:Nat):Int) by omega];refine do_eq (q1 w6) |>.mpr ?_;rw[fa_o0];refine do_eq (run_load_cell nInt5 (q2 w6 (ho.hasM 2 rfl) 0 _ rfl)) |>.mpr ?_;have hk0:=h0 _ (List.getElem_mem hi');simp only[rs,hk0,ne_eq,not_false_eq_true,decide_true];refine quietC (fun W=>OwnS M.A w W [obE b5 (Pg.dictF (prs.take i)) dk dc,obE b2 ob0 nilS nilS,.mem N]) ho.drew ?_;refine q_at (obV (Pg.dictF (prs.take i)) dk dc) (fun W h=>run_obload (h.at_ 0 rfl)) ?_;refine q_do _ r1 (q_do _ (fun _=>run_fa fo_o3) (q_at (.string ⟨prs[i].1.toArray⟩) (fun W h=>run_load_cell nStr5 (r2 W (h.hasM 2 rfl) 3 _ rfl)) ?_));refine q_add ?_;rw[wrap64_id (by omega) (by omega),show ((2*i:Nat):Int)+1=((2*i+1:Nat):Int) by omega];refine q_do _ q1 (q_at (obV prs[i].2 yk yc) (fun W h=>run_load_at (AtV.agg aggOb (cs:=obC prs[i].2 yk yc) rfl fun j u hj=>q2 W (h.hasM 2 rfl) j u hj)) ?_);intro w7 ho;have hlen:(Pg.dictF (prs.take i)).keys.length=(Pg.dictF (prs.take i)).kids.length:=Pg.dictF_lens _ _ rfl;refine c_mem ho 2 rfl (rput_ret (Pg.dictF (prs.take i)) prs[i].2 _ _ prs[i].1 N w7 (by have:=hwt i;omega) (ho.hasM 2 rfl) hd hy hlen) fun e N2 w8 hle2 he ho=>?_;rw[←Pg.dictF_take hi'] at he;obtain⟨ek,ec,ecs,rfl,hea⟩:=he.open;refine ob_put 0 hea.keys.one hea.kids.one ho rfl fun w9 ho=>?_;refine hJ _ _ fun _=>?_;simp only[S_foliantref05_Dict_3,gd,rs];rw[wrap64_id (by omega) (by omega),show ((2*i:Nat):Int)+2=((2*(i+1):Nat):Int) by omega];exact nextX ⟨i+1,N2,z2,ek,ec,rfl,by omega,hle.trans hle2,he,ho⟩ (by simp[n1,RowKit.intOf];omega)
 ·simp only[hlt,decide_false,i_f];have hie:i=prs.length:=by omega
  subst hie;rw[List.take_length] at hd ho;have hwt':=hwt prs.length;rw[List.take_length] at hwt';rw[ob_v ho 0 rfl];refine c_mem ho 2 rfl (rright_ret (Pg.dictF prs) _ N w5 (by omega) (ho.hasM 2 rfl) hd) ?_;rintro _ N2 w6 hle2 ⟨y,rfl,hy⟩ ho;obtain⟨yk,yc,ycs,rfl,hya⟩:=hy.open;simp only[errV,ex];refine ob_put 1 hya.keys.one hya.kids.one ho rfl fun w7 ho=>?_;exact ret_ob2 1 ho rfl (hK _ _ N2 _ 2 ho rfl (hle.trans hle2) ⟨_,rfl,hy⟩)
end
section
open Eng Go.RowKit
theorem leaf_ov (M:Mem)(k n g:Int)(s:List UInt8):OV M.A M.w (obV (.mk k n g s [] []) nilS nilS) (.mk k n g s [] []):=ObAt.ov (cs:=[]) ⟨SlA.nil _ _ _ _,SlA.nil _ _ _ _,.nil⟩
theorem arr_ov {M:Mem}{v:Value}{l:List Ob}(h:Chn M.A M.w v l):OV M.A M.w (obV (Pg.arrO l) nilS v) (Pg.arrO l):=by
 obtain⟨cs,h1,h2⟩:=h;exact ObAt.ov (cs:=cs) ⟨SlA.nil _ _ _ _,h1,h2⟩
theorem lkey_ret (s:List UInt8)(w:World):Ret prog 54 #[.string ⟨s.toArray⟩] w (fun v w'=>v=obV (Pg.nameO s) nilS nilS∧Below w.heap.size w w'):=by
 refine ret_of fun K hK=>S_foliantlaw35_key_ok ?_;unfold S_foliantlaw35_key;refine o_oba (Own.start w) fun b2 w1 ho=>?_;refine c_below ho (R:=fun v=>v=obV (ob1 5 0 0 s) nilS nilS) (rkey05_ret s w1) ?_;rintro _ w2 rfl ho;refine ob_put 0 rfl rfl ho rfl fun w3 ho=>?_;exact ret_obi 0 ho rfl (hK _ _ ⟨rfl,ho.done⟩)
section
variable {w:World}{PK:PKT}{K:VWP}{S:Nat→Prop}{w0:World}{L:List Ent}
theorem c_key35 (s:List UInt8)(ho:OwnS S w0 w L)(k:∀W,OwnS S w0 W L→K (obV (Pg.nameO s) nilS nilS) W):CallX prog 54 #[.string ⟨s.toArray⟩] w PK K:=by
 refine c_below ho (R:=fun v=>v=obV (Pg.nameO s) nilS nilS) (lkey_ret s w) ?_;rintro _ w2 rfl ho;exact k w2 ho
theorem c_ref35 (n:Int)(ho:OwnS S w0 w L)(k:∀W,OwnS S w0 W L→K (obV (Pg.refO n) nilS nilS) W):CallX prog 31 #[.int .i64 n,.int .i64 0] w PK K:=by
 refine c_below ho (R:=fun v=>v=obV (ob1 8 n 0 []) nilS nilS) (rref05_ret n 0 w) ?_;rintro _ w2 rfl ho;exact k w2 ho
theorem c_int35 (n:Int)(ho:OwnS S w0 w L)(k:∀W,OwnS S w0 W L→K (obV (Pg.intO n) nilS nilS) W):CallX prog 26 #[.int .i64 n] w PK K:=by
 refine c_below ho (R:=fun v=>v=obV (ob1 2 n 0 []) nilS nilS) (rint05_ret n w) ?_;rintro _ w2 rfl ho;exact k w2 ho
theorem c_arr35 (l:List Ob)(a:Option Addr)(n c:Nat)(ho:OwnS S w0 w L)(k:∀W,OwnS S w0 W L→K (obV (Pg.arrO l) nilS (.slice a n c)) W):CallX prog 24 #[.slice a n c] w PK K:=by
 refine c_below ho (R:=fun v=>v=obV (Pg.arrO l) nilS (.slice a n c)) (rarr05_ret a n c l w) ?_;rintro _ w2 rfl ho;exact k w2 ho
theorem o_chn2 {o1:Ob}{a1:Option Addr}{n1 c1:Nat}{o2:Ob}{a2:Option Addr}{n2 c2:Nat}{M:Mem}(jm:Nat)(ho:OwnS S w0 w L)(hm:L[jm]?=some (.mem M))(h1:OV M.A M.w (obV o1 nilS (.slice a1 n1 c1)) o1)(h2:OV M.A M.w (obV o2 nilS (.slice a2 n2 c2)) o2)
  (k:∀(b:Nat) N W,M.le N→Chn N.A N.w (.slice (some ⟨b,0,none⟩) 2 2) [o1,o2]→OwnS S w0 W (L.set jm (.mem N))→K (.slice (some ⟨b,0,none⟩) 2 2) W):DoX prog (mBuildS 24 2 #[(0,obV o1 nilS (.slice a1 n1 c1)),(1,obV o2 nilS (.slice a2 n2 c2))]) w PK K:=by
 refine o_new (fun b=>.slice (some ⟨b,0,none⟩) 2 2) (obC o1 nilS (.slice a1 n1 c1)++(obC o2 nilS (.slice a2 n2 c2))) 26 (fun _=>by kernel_rfl) ho fun b w1 ho=>?_;have ho:=OwnS.toU (b:=b) (cs:=obC o1 nilS (.slice a1 n1 c1)++(obC o2 nilS (.slice a2 n2 c2))) (E:=26) ho 6 2 2 rfl (by omega) (by omega);obtain⟨N,hle,hrow,ho⟩:=OwnS.freezeU ho jm hm;exact k b N w1 hle ⟨_,hrow,ovs_app (ovs_1 (h1.le hle)) (ovs_1 (h2.le hle))⟩ ho
theorem o_chn4 {o1:Ob}{a1:Option Addr}{n1 c1:Nat}{o2:Ob}{a2:Option Addr}{n2 c2:Nat}{o3:Ob}{a3:Option Addr}{n3 c3:Nat}{o4:Ob}{a4:Option Addr}{n4 c4:Nat}{M:Mem}(jm:Nat)(ho:OwnS S w0 w L)(hm:L[jm]?=some (.mem M))(h1:OV M.A M.w (obV o1 nilS (.slice a1 n1 c1)) o1)(h2:OV M.A M.w (obV o2 nilS (.slice a2 n2 c2)) o2)(h3:OV M.A M.w (obV o3 nilS (.slice a3 n3 c3)) o3)(h4:OV M.A M.w (obV o4 nilS (.slice a4 n4 c4)) o4)
  (k:∀(b:Nat) N W,M.le N→Chn N.A N.w (.slice (some ⟨b,0,none⟩) 4 4) [o1,o2,o3,o4]→OwnS S w0 W (L.set jm (.mem N))→K (.slice (some ⟨b,0,none⟩) 4 4) W):DoX prog (mBuildS 24 4 #[(0,obV o1 nilS (.slice a1 n1 c1)),(1,obV o2 nilS (.slice a2 n2 c2)),(2,obV o3 nilS (.slice a3 n3 c3)),(3,obV o4 nilS (.slice a4 n4 c4))]) w PK K:=by
 refine o_new (fun b=>.slice (some ⟨b,0,none⟩) 4 4) (obC o1 nilS (.slice a1 n1 c1)++(obC o2 nilS (.slice a2 n2 c2)++(obC o3 nilS (.slice a3 n3 c3)++(obC o4 nilS (.slice a4 n4 c4))))) 26 (fun _=>by kernel_rfl) ho fun b w1 ho=>?_;have ho:=OwnS.toU (b:=b) (cs:=obC o1 nilS (.slice a1 n1 c1)++(obC o2 nilS (.slice a2 n2 c2)++(obC o3 nilS (.slice a3 n3 c3)++(obC o4 nilS (.slice a4 n4 c4))))) (E:=26) ho 6 4 4 rfl (by omega) (by omega);obtain⟨N,hle,hrow,ho⟩:=OwnS.freezeU ho jm hm;exact k b N w1 hle ⟨_,hrow,ovs_app (ovs_1 (h1.le hle)) (ovs_app (ovs_1 (h2.le hle)) (ovs_app (ovs_1 (h3.le hle)) (ovs_1 (h4.le hle))))⟩ ho
theorem o_chn6 {o1:Ob}{a1:Option Addr}{n1 c1:Nat}{o2:Ob}{a2:Option Addr}{n2 c2:Nat}{o3:Ob}{a3:Option Addr}{n3 c3:Nat}{o4:Ob}{a4:Option Addr}{n4 c4:Nat}{o5:Ob}{a5:Option Addr}{n5 c5:Nat}{o6:Ob}{a6:Option Addr}{n6 c6:Nat}{M:Mem}(jm:Nat)(ho:OwnS S w0 w L)(hm:L[jm]?=some (.mem M))(h1:OV M.A M.w (obV o1 nilS (.slice a1 n1 c1)) o1)(h2:OV M.A M.w (obV o2 nilS (.slice a2 n2 c2)) o2)(h3:OV M.A M.w (obV o3 nilS (.slice a3 n3 c3)) o3)(h4:OV M.A M.w (obV o4 nilS (.slice a4 n4 c4)) o4)(h5:OV M.A M.w (obV o5 nilS (.slice a5 n5 c5)) o5)(h6:OV M.A M.w (obV o6 nilS (.slice a6 n6 c6)) o6)
  (k:∀(b:Nat) N W,M.le N→Chn N.A N.w (.slice (some ⟨b,0,none⟩) 6 6) [o1,o2,o3,o4,o5,o6]→OwnS S w0 W (L.set jm (.mem N))→K (.slice (some ⟨b,0,none⟩) 6 6) W):DoX prog (mBuildS 24 6 #[(0,obV o1 nilS (.slice a1 n1 c1)),(1,obV o2 nilS (.slice a2 n2 c2)),(2,obV o3 nilS (.slice a3 n3 c3)),(3,obV o4 nilS (.slice a4 n4 c4)),(4,obV o5 nilS (.slice a5 n5 c5)),(5,obV o6 nilS (.slice a6 n6 c6))]) w PK K:=by
 refine o_new (fun b=>.slice (some ⟨b,0,none⟩) 6 6) (obC o1 nilS (.slice a1 n1 c1)++(obC o2 nilS (.slice a2 n2 c2)++(obC o3 nilS (.slice a3 n3 c3)++(obC o4 nilS (.slice a4 n4 c4)++(obC o5 nilS (.slice a5 n5 c5)++(obC o6 nilS (.slice a6 n6 c6))))))) 26 (fun _=>by kernel_rfl) ho fun b w1 ho=>?_;have ho:=OwnS.toU (b:=b) (cs:=obC o1 nilS (.slice a1 n1 c1)++(obC o2 nilS (.slice a2 n2 c2)++(obC o3 nilS (.slice a3 n3 c3)++(obC o4 nilS (.slice a4 n4 c4)++(obC o5 nilS (.slice a5 n5 c5)++(obC o6 nilS (.slice a6 n6 c6))))))) (E:=26) ho 6 6 6 rfl (by omega) (by omega);obtain⟨N,hle,hrow,ho⟩:=OwnS.freezeU ho jm hm;exact k b N w1 hle ⟨_,hrow,ovs_app (ovs_1 (h1.le hle)) (ovs_app (ovs_1 (h2.le hle)) (ovs_app (ovs_1 (h3.le hle)) (ovs_app (ovs_1 (h4.le hle)) (ovs_app (ovs_1 (h5.le hle)) (ovs_1 (h6.le hle))))))⟩ ho
theorem o_chn8 {o1:Ob}{a1:Option Addr}{n1 c1:Nat}{o2:Ob}{a2:Option Addr}{n2 c2:Nat}{o3:Ob}{a3:Option Addr}{n3 c3:Nat}{o4:Ob}{a4:Option Addr}{n4 c4:Nat}{o5:Ob}{a5:Option Addr}{n5 c5:Nat}{o6:Ob}{a6:Option Addr}{n6 c6:Nat}{o7:Ob}{a7:Option Addr}{n7 c7:Nat}{o8:Ob}{a8:Option Addr}{n8 c8:Nat}{M:Mem}(jm:Nat)(ho:OwnS S w0 w L)(hm:L[jm]?=some (.mem M))(h1:OV M.A M.w (obV o1 nilS (.slice a1 n1 c1)) o1)(h2:OV M.A M.w (obV o2 nilS (.slice a2 n2 c2)) o2)(h3:OV M.A M.w (obV o3 nilS (.slice a3 n3 c3)) o3)(h4:OV M.A M.w (obV o4 nilS (.slice a4 n4 c4)) o4)(h5:OV M.A M.w (obV o5 nilS (.slice a5 n5 c5)) o5)(h6:OV M.A M.w (obV o6 nilS (.slice a6 n6 c6)) o6)(h7:OV M.A M.w (obV o7 nilS (.slice a7 n7 c7)) o7)(h8:OV M.A M.w (obV o8 nilS (.slice a8 n8 c8)) o8)
  (k:∀(b:Nat) N W,M.le N→Chn N.A N.w (.slice (some ⟨b,0,none⟩) 8 8) [o1,o2,o3,o4,o5,o6,o7,o8]→OwnS S w0 W (L.set jm (.mem N))→K (.slice (some ⟨b,0,none⟩) 8 8) W):DoX prog (mBuildS 24 8 #[(0,obV o1 nilS (.slice a1 n1 c1)),(1,obV o2 nilS (.slice a2 n2 c2)),(2,obV o3 nilS (.slice a3 n3 c3)),(3,obV o4 nilS (.slice a4 n4 c4)),(4,obV o5 nilS (.slice a5 n5 c5)),(5,obV o6 nilS (.slice a6 n6 c6)),(6,obV o7 nilS (.slice a7 n7 c7)),(7,obV o8 nilS (.slice a8 n8 c8))]) w PK K:=by
 refine o_new (fun b=>.slice (some ⟨b,0,none⟩) 8 8) (obC o1 nilS (.slice a1 n1 c1)++(obC o2 nilS (.slice a2 n2 c2)++(obC o3 nilS (.slice a3 n3 c3)++(obC o4 nilS (.slice a4 n4 c4)++(obC o5 nilS (.slice a5 n5 c5)++(obC o6 nilS (.slice a6 n6 c6)++(obC o7 nilS (.slice a7 n7 c7)++(obC o8 nilS (.slice a8 n8 c8))))))))) 26 (fun _=>by kernel_rfl) ho fun b w1 ho=>?_;have ho:=OwnS.toU (b:=b) (cs:=obC o1 nilS (.slice a1 n1 c1)++(obC o2 nilS (.slice a2 n2 c2)++(obC o3 nilS (.slice a3 n3 c3)++(obC o4 nilS (.slice a4 n4 c4)++(obC o5 nilS (.slice a5 n5 c5)++(obC o6 nilS (.slice a6 n6 c6)++(obC o7 nilS (.slice a7 n7 c7)++(obC o8 nilS (.slice a8 n8 c8))))))))) (E:=26) ho 6 8 8 rfl (by omega) (by omega);obtain⟨N,hle,hrow,ho⟩:=OwnS.freezeU ho jm hm;exact k b N w1 hle ⟨_,hrow,ovs_app (ovs_1 (h1.le hle)) (ovs_app (ovs_1 (h2.le hle)) (ovs_app (ovs_1 (h3.le hle)) (ovs_app (ovs_1 (h4.le hle)) (ovs_app (ovs_1 (h5.le hle)) (ovs_app (ovs_1 (h6.le hle)) (ovs_app (ovs_1 (h7.le hle)) (ovs_1 (h8.le hle))))))))⟩ ho
end
theorem lbox_ret (a b c e:Int)(M:Mem)(w:World)(hM:M.has w):RetM prog 34 #[.int .i64 a,.int .i64 b,.int .i64 c,.int .i64 e] M w (fun r N=>∃p n m,r=obV (Pg.boxI a b c e) nilS (.slice p n m)∧Chn N.A N.w (.slice p n m) [Pg.intO a,Pg.intO b,Pg.intO c,Pg.intO e]):=by
 refine retM_of hM fun K hK=>S_foliantlaw35_box_ok ?_;unfold S_foliantlaw35_box;refine o_oba (OwnS.memS hM) fun b8 w1 ho=>?_;refine c_int35 a ho fun w2 ho=>c_int35 b ho fun w3 ho=>c_int35 c ho fun w4 ho=>c_int35 e ho fun w5 ho=>?_;refine o_chn4 1 ho rfl (leaf_ov M _ _ _ _) (leaf_ov M _ _ _ _) (leaf_ov M _ _ _ _) (leaf_ov M _ _ _ _) fun nb N w6 hle hc ho=>?_;refine c_arr35 [Pg.intO a,Pg.intO b,Pg.intO c,Pg.intO e] _ _ _ ho fun w7 ho=>?_;refine ob_put 0 rfl rfl ho rfl fun w8 ho=>?_;exact ret_obi 0 ho rfl (hK _ _ N _ 1 ho rfl hle ⟨_,_,_,rfl,hc⟩)
theorem ldict_ret (prs:List (List UInt8×Ob))(D:Ob)(hD:Vl.right (Pg.dictF prs)=(D,0))(v:Value)(M:Mem)(w:World)(hn:(prs.map (·.1)).Nodup)(h0:∀p∈prs,p.2.k≠0)(hl:prs.length≤1000)(hw:Pg.wtP prs≤100000000)(hM:M.has w)(hc:Chn M.A M.w v (Pg.flat prs)) :
  RetM prog 53 #[v] M w (fun r N=>OV N.A N.w r D):=by
 refine retM_of hM fun K hK=>S_foliantlaw35_dict_ok ?_;unfold S_foliantlaw35_dict;refine o_oba (OwnS.memS hM) fun b2 w1 ho=>?_;refine c_mem ho 1 rfl (rdict5_ret prs v M w1 hn h0 hl hw (ho.hasM 1 rfl) hc) ?_;rintro _ N w2 hle ⟨y,rfl,hy⟩ ho;rw[hD] at hy;obtain⟨yk,yc,ycs,rfl,hya⟩:=hy.open;simp only[errV,ex];refine o_oba ho fun b3 w3 ho=>?_;refine ob_put 0 hya.keys.one hya.kids.one ho rfl fun w4 ho=>?_;rw[ob_v ho 0 rfl];refine ob_put 1 hya.keys.one hya.kids.one ho rfl fun w5 ho=>?_;exact ret_obi 1 ho rfl (hK _ _ N _ 2 ho rfl hle hy)
def rootP:List (List UInt8×Ob):=[(Dk.typeK,Pg.nameO Pg.catN),(Pg.pagesN,Pg.refO 2)]
def treeP:List (List UInt8×Ob):=[(Dk.typeK,Pg.nameO Pg.pagesN),(Pg.kidsK,Pg.arrO [Pg.refO 3,Pg.refO 4]),(Pg.mediaK,Pg.boxI 3 4 1 2)]
def oneP:List (List UInt8×Ob):=[(Dk.typeK,Pg.nameO Pg.pageN),(Pg.conK,Pg.conS)]
def twoP:List (List UInt8×Ob):=[(Dk.typeK,Pg.nameO Pg.pageN),(Pg.mediaK,Pg.boxI 0 0 9 9),(Pg.cropK,Pg.boxI 5 5 20 20),(Pg.rotK,Pg.intO (-90))]
def trP:List (List UInt8×Ob):=[(Dk.rootK,Pg.refO 1)]
theorem rootP_ok:Vl.right (Pg.dictF rootP)=(Pg.rootO,0):=by kernel_rfl
theorem treeP_ok:Vl.right (Pg.dictF treeP)=(Pg.treeO,0):=by kernel_rfl
theorem oneP_ok:Vl.right (Pg.dictF oneP)=(Pg.oneO Pg.conS,0):=by kernel_rfl
theorem twoP_ok:Vl.right (Pg.dictF twoP)=(Pg.twoO,0):=by kernel_rfl
theorem trP_ok:Vl.right (Pg.dictF trP)=(Pg.trO,0):=by kernel_rfl
end
section
open Eng Go.RowKit
theorem rootP_k:∀p∈rootP,p.2.k≠0:=by decide
theorem treeP_k:∀p∈treeP,p.2.k≠0:=by decide
theorem oneP_k:∀p∈oneP,p.2.k≠0:=by decide
theorem twoP_k:∀p∈twoP,p.2.k≠0:=by decide
theorem trP_k:∀p∈trP,p.2.k≠0:=by decide
theorem ov_forms {A:Nat→Prop}{w:World}{o:Ob}{vk vc:Value}(h:OV A w (obV o vk vc) o):∃a n c a2 n2 c2,vk=.slice a n c∧vc=.slice a2 n2 c2:=by
 obtain⟨cs,ha⟩:=h.slices;obtain⟨a,c,rfl,_⟩:=ha.keys.form;obtain⟨a2,c2,rfl,_⟩:=ha.kids.form;exact⟨_,_,_,_,_,_,rfl,rfl⟩
section
variable {w:World}{PK:PKT}{K:VWP}{S:Nat→Prop}{w0:World}{L:List Ent}
theorem c_dict35 (prs:List (List UInt8×Ob))(D:Ob)(hD:Vl.right (Pg.dictF prs)=(D,0))(hn:(prs.map (·.1)).Nodup)(h0:∀p∈prs,p.2.k≠0)(hl:prs.length≤1000)(hw:Pg.wtP prs≤100000000){v:Value}{M:Mem}(jm:Nat)(ho:OwnS S w0 w L)(hm:L[jm]?=some (.mem M))(hc:Chn M.A M.w v (Pg.flat prs))
  (k:∀N a n c a2 n2 c2 W,M.le N→OV N.A N.w (obV D (.slice a n c) (.slice a2 n2 c2)) D→OwnS S w0 W (L.set jm (.mem N))→K (obV D (.slice a n c) (.slice a2 n2 c2)) W):CallX prog 53 #[v] w PK K:=by
 refine c_mem ho jm hm (ldict_ret prs D hD v M w hn h0 hl hw (ho.hasM jm hm) hc) fun y N w1 hle hy ho=>?_;obtain⟨yk,yc,ycs,rfl,hya⟩:=hy.open;obtain⟨a,n,c,a2,n2,c2,rfl,rfl⟩:=ov_forms hy;exact k N a n c a2 n2 c2 w1 hle hy ho
theorem c_box35 (a b c e:Int){M:Mem}(jm:Nat)(ho:OwnS S w0 w L)(hm:L[jm]?=some (.mem M))
  (k:∀N p n m W,M.le N→OV N.A N.w (obV (Pg.boxI a b c e) nilS (.slice p n m)) (Pg.boxI a b c e)→OwnS S w0 W (L.set jm (.mem N))→K (obV (Pg.boxI a b c e) nilS (.slice p n m)) W):CallX prog 34 #[.int .i64 a,.int .i64 b,.int .i64 c,.int .i64 e] w PK K:=by
 refine c_mem ho jm hm (lbox_ret a b c e M w (ho.hasM jm hm)) ?_;rintro _ N w1 hle ⟨p,n,m,rfl,hc⟩ ho;exact k N p n m w1 hle (arr_ov hc) ho
theorem o_items5 {k1:Option Addr}{x1 y1:Nat}{l1:Option Addr}{u1 v1:Nat}{k2:Option Addr}{x2 y2:Nat}{l2:Option Addr}{u2 v2:Nat}{k3:Option Addr}{x3 y3:Nat}{l3:Option Addr}{u3 v3:Nat}{k4:Option Addr}{x4 y4:Nat}{l4:Option Addr}{u4 v4:Nat}{M:Mem}(jm:Nat)(ho:OwnS S w0 w L)(hm:L[jm]?=some (.mem M))(h1:OV M.A M.w (obV Pg.rootO (.slice k1 x1 y1) (.slice l1 u1 v1)) Pg.rootO)(h2:OV M.A M.w (obV Pg.treeO (.slice k2 x2 y2) (.slice l2 u2 v2)) Pg.treeO)(h3:OV M.A M.w (obV (Pg.oneO Pg.conS) (.slice k3 x3 y3) (.slice l3 u3 v3)) (Pg.oneO Pg.conS))(h4:OV M.A M.w (obV Pg.twoO (.slice k4 x4 y4) (.slice l4 u4 v4)) Pg.twoO)
  (k:∀(b:Nat) N W (ics:List Value),M.le N→SlA N.A N.w (.slice (some ⟨b,0,none⟩) 5 5) 8 5 ics→IVs N.A N.w ics Pg.docS.items→OwnS S w0 W (L.set jm (.mem N))→K (.slice (some ⟨b,0,none⟩) 5 5) W) :
  DoX prog (mBuildS 22 5 #[(0,itV ⟨1,0,Pg.rootO⟩ (.slice k1 x1 y1) (.slice l1 u1 v1)),(1,itV ⟨2,0,Pg.treeO⟩ (.slice k2 x2 y2) (.slice l2 u2 v2)),(2,itV ⟨3,0,Pg.oneO Pg.conS⟩ (.slice k3 x3 y3) (.slice l3 u3 v3)),(3,itV ⟨4,0,Pg.twoO⟩ (.slice k4 x4 y4) (.slice l4 u4 v4)),(4,itV ⟨5,0,Pg.strmO [113]⟩ nilS nilS)]) w PK K:=by
 refine o_new (fun b=>.slice (some ⟨b,0,none⟩) 5 5) (itC ⟨1,0,Pg.rootO⟩ (.slice k1 x1 y1) (.slice l1 u1 v1)++(itC ⟨2,0,Pg.treeO⟩ (.slice k2 x2 y2) (.slice l2 u2 v2)++(itC ⟨3,0,(Pg.oneO Pg.conS)⟩ (.slice k3 x3 y3) (.slice l3 u3 v3)++(itC ⟨4,0,Pg.twoO⟩ (.slice k4 x4 y4) (.slice l4 u4 v4)++(itC ⟨5,0,Pg.strmO [113]⟩ nilS nilS))))) 53 (fun _=>by kernel_rfl) ho fun b w1 ho=>?_;have ho:=OwnS.toU (b:=b) (cs:=itC ⟨1,0,Pg.rootO⟩ (.slice k1 x1 y1) (.slice l1 u1 v1)++(itC ⟨2,0,Pg.treeO⟩ (.slice k2 x2 y2) (.slice l2 u2 v2)++(itC ⟨3,0,(Pg.oneO Pg.conS)⟩ (.slice k3 x3 y3) (.slice l3 u3 v3)++(itC ⟨4,0,Pg.twoO⟩ (.slice k4 x4 y4) (.slice l4 u4 v4)++(itC ⟨5,0,Pg.strmO [113]⟩ nilS nilS))))) (E:=53) ho 8 5 5 rfl (by omega) (by omega);obtain⟨N,hle,hrow,ho⟩:=OwnS.freezeU ho jm hm;refine k b N w1 (itC ⟨1,0,Pg.rootO⟩ (.slice k1 x1 y1) (.slice l1 u1 v1)++(itC ⟨2,0,Pg.treeO⟩ (.slice k2 x2 y2) (.slice l2 u2 v2)++(itC ⟨3,0,(Pg.oneO Pg.conS)⟩ (.slice k3 x3 y3) (.slice l3 u3 v3)++(itC ⟨4,0,Pg.twoO⟩ (.slice k4 x4 y4) (.slice l4 u4 v4)++(itC ⟨5,0,Pg.strmO [113]⟩ nilS nilS))))) hle hrow ?_ ho;show Rws (itR N.A N.w) _ ([⟨1,0,Pg.rootO⟩,⟨2,0,Pg.treeO⟩,⟨3,0,Pg.oneO Pg.conS⟩,⟨4,0,Pg.twoO⟩,⟨5,0,Pg.strmO [113]⟩]:List It);exact .cons ⟨_,_,rfl,h1.le hle⟩ (.cons ⟨_,_,rfl,h2.le hle⟩ (.cons ⟨_,_,rfl,h3.le hle⟩ (.cons ⟨_,_,rfl,h4.le hle⟩ (Rws.snoc (cs:=[]) (xs:=[]) ⟨nilS,nilS,rfl,leaf_ov N _ _ _ _⟩ .nil))))
end
theorem run_mit {W:World}{n:Int}{o:Ob}{a:Option Addr}{x y:Nat}{b:Option Addr}{u v:Nat}:(mBuild 53 #[(0,.int .i64 n),(2,obV o (.slice a x y) (.slice b u v))]).run prog W=.ok (.value (itV ⟨n,0,o⟩ (.slice a x y) (.slice b u v))) W:=by kernel_rfl
theorem run_mstrm {W:World}:(mBuild 26 #[(0,.int .i64 9),(3,.string ⟨#[113]⟩)]).run prog W=.ok (.value (obV (Pg.strmO [113]) nilS nilS)) W:=by kernel_rfl
theorem run_mdoc {W:World}{o:Ob}{its:List It}{q:Option Addr}{r s:Nat}{a:Option Addr}{x y:Nat}{b:Option Addr}{u v:Nat}:(mBuild 28 #[(0,.slice q r s),(1,obV o (.slice a x y) (.slice b u v))]).run prog W=.ok (.value (dcV ⟨its,o⟩ (.slice q r s) (.slice a x y) (.slice b u v))) W:=by kernel_rfl
theorem lsample_ret (M:Mem)(w:World)(hM:M.has w):RetM prog 28 #[] M w (fun r N=>DV N.A N.w r Pg.docS):=by
 refine retM_of hM fun K hK=>S_foliantlaw35_sample_ok ?_;unfold S_foliantlaw35_sample;refine o_dca (OwnS.memS hM) fun b0 w1 ho=>?_;refine c_ref35 2 ho fun w2 ho=>?_;refine o_oba ho fun b1 w3 ho=>?_;refine ob_put 0 rfl rfl ho rfl fun w4 ho=>?_;have ho:OwnS M.A w w4 [obE b1 (Pg.refO 2) nilS nilS,dcE b0 Dk.dc0 nilS nilS nilS,.mem M]:=ho;have fin:∀{W:World} {N:Mem} {b2:Nat} {a:Option Addr} {n c:Nat} {a2:Option Addr} {n2 c2:Nat},M.le N→OV N.A N.w (obV Pg.rootO (.slice a n c) (.slice a2 n2 c2)) Pg.rootO→OwnS M.A w W [obE b2 Pg.rootO (.slice a n c) (.slice a2 n2 c2),obE b1 (Pg.refO 2) nilS nilS,dcE b0 Dk.dc0 nilS nilS nilS,.mem N]→S_foliantlaw35_sample_0 (.pointer (some ⟨b0,0,none⟩)) (.pointer (some ⟨b2,0,none⟩)) W K:=by
  intro W N b2 a n c a2 n2 c2 hle h1 ho;unfold S_foliantlaw35_sample_0;refine c_key35 Dk.typeK ho fun z1 ho=>c_key35 Pg.pagesN ho fun z2 ho=>c_key35 Pg.kidsK ho fun z3 ho=>c_ref35 3 ho fun z4 ho=>c_ref35 4 ho fun z5 ho=>?_;refine o_chn2 3 ho rfl (leaf_ov _ _ _ _ _) (leaf_ov _ _ _ _ _) fun nb1 Q1 z6 e1 hk1 ho=>?_;refine c_arr35 [Pg.refO 3,Pg.refO 4] _ _ _ ho fun z7 ho=>c_key35 Pg.mediaK ho fun z8 ho=>?_;refine c_box35 3 4 1 2 3 ho rfl fun Q2 p1 p2 p3 z9 e2 hb1 ho=>?_;refine o_chn6 3 ho rfl (leaf_ov _ _ _ _ _) (leaf_ov _ _ _ _ _) (leaf_ov _ _ _ _ _) ((arr_ov hk1).le e2) (leaf_ov _ _ _ _ _) hb1 fun nb2 Q3 z10 e3 hch ho=>?_;refine c_dict35 treeP Pg.treeO treeP_ok (by decide) treeP_k (by decide) (by decide +kernel) 3 ho rfl hch fun Q4 k2 x2 y2 l2 u2 v2 z11 e4 h2 ho=>?_;refine o_oba ho fun b3 z12 ho=>?_;refine ob_put 0 rfl rfl ho rfl fun z13 ho=>?_;have hc1:=((e1.trans e2).trans e3).trans e4;have ho:OwnS M.A w z13 [obE b3 Pg.treeO (.slice k2 x2 y2) (.slice l2 u2 v2),obE b2 Pg.rootO (.slice a n c) (.slice a2 n2 c2),obE b1 (Pg.refO 2) nilS nilS,dcE b0 Dk.dc0 nilS nilS nilS,.mem Q4]:=ho;refine c_key35 Dk.typeK ho fun z1 ho=>c_key35 Pg.pageN ho fun z2 ho=>c_key35 Pg.conK ho fun z3 ho=>c_ref35 5 ho fun z4 ho=>c_ref35 5 ho fun z5 ho=>?_;refine o_chn2 4 ho rfl (leaf_ov _ _ _ _ _) (leaf_ov _ _ _ _ _) fun nb3 Q5 z6 e5 hk2 ho=>?_;refine c_arr35 [Pg.refO 5,Pg.refO 5] _ _ _ ho fun z7 ho=>?_;refine o_chn4 4 ho rfl (leaf_ov _ _ _ _ _) (leaf_ov _ _ _ _ _) (leaf_ov _ _ _ _ _) (arr_ov hk2) fun nb4 Q6 z10 e6 hch ho=>?_;refine c_dict35 oneP (Pg.oneO Pg.conS) oneP_ok (by decide) oneP_k (by decide) (by decide +kernel) 4 ho rfl hch fun Q7 k3 x3 y3 l3 u3 v3 z11 e7 h3 ho=>?_;refine o_oba ho fun b4 z12 ho=>?_;refine ob_put 0 rfl rfl ho rfl fun z13 ho=>?_;have hc2:=(e5.trans e6).trans e7;have ho:OwnS M.A w z13 [obE b4 (Pg.oneO Pg.conS) (.slice k3 x3 y3) (.slice l3 u3 v3),obE b3 Pg.treeO (.slice k2 x2 y2) (.slice l2 u2 v2),obE b2 Pg.rootO (.slice a n c) (.slice a2 n2 c2),obE b1 (Pg.refO 2) nilS nilS,dcE b0 Dk.dc0 nilS nilS nilS,.mem Q7]:=ho;refine c_key35 Dk.typeK ho fun z1 ho=>c_key35 Pg.pageN ho fun z2 ho=>c_key35 Pg.mediaK ho fun z3 ho=>?_;refine c_box35 0 0 9 9 5 ho rfl fun Q8 q1 q2 q3 z4 e8 hb2 ho=>?_;refine c_key35 Pg.cropK ho fun z5 ho=>?_;refine c_box35 5 5 20 20 5 ho rfl fun Q9 r1 r2 r3 z6 e9 hb3 ho=>?_;refine c_key35 Pg.rotK ho fun z7 ho=>c_int35 (-90) ho fun z8 ho=>?_;refine o_chn8 5 ho rfl (leaf_ov _ _ _ _ _) (leaf_ov _ _ _ _ _) (leaf_ov _ _ _ _ _) (hb2.le e9) (leaf_ov _ _ _ _ _) hb3 (leaf_ov _ _ _ _ _) (leaf_ov _ _ _ _ _) fun nb5 Q10 z9 e10 hch ho=>?_;refine c_dict35 twoP Pg.twoO twoP_ok (by decide) twoP_k (by decide) (by decide +kernel) 5 ho rfl hch fun Q11 k4 x4 y4 l4 u4 v4 z11 e11 h4 ho=>?_;refine o_oba ho fun b5 z12 ho=>?_;refine ob_put 0 rfl rfl ho rfl fun z13 ho=>?_;have hc3:=((e8.trans e9).trans e10).trans e11;have ho:OwnS M.A w z13 [obE b5 Pg.twoO (.slice k4 x4 y4) (.slice l4 u4 v4),obE b4 (Pg.oneO Pg.conS) (.slice k3 x3 y3) (.slice l3 u3 v3),obE b3 Pg.treeO (.slice k2 x2 y2) (.slice l2 u2 v2),obE b2 Pg.rootO (.slice a n c) (.slice a2 n2 c2),obE b1 (Pg.refO 2) nilS nilS,dcE b0 Dk.dc0 nilS nilS nilS,.mem Q11]:=ho
  replace h1:=h1.le ((hc1.trans hc2).trans hc3)
  replace h2:=h2.le (hc2.trans hc3)
  replace h3:=h3.le hc3
  have ho:=ho.drew;have hcum:=Q11.le_refl;have hbase:=hle.trans ((hc1.trans hc2).trans hc3);have done:∀{W:World} {PK:PKT} {P:Mem} {vb:Nat} {ics:List Value} {ta:Option Addr} {tn tc:Nat} {ta2:Option Addr} {tn2 tc2:Nat},Q11.le P→SlA P.A P.w (.slice (some ⟨vb,0,none⟩) 5 5) 8 5 ics→IVs P.A P.w ics Pg.docS.items→OV P.A P.w (obV Pg.trO (.slice ta tn tc) (.slice ta2 tn2 tc2)) Pg.trO →
    OwnS M.A w W [obE b5 Pg.twoO (.slice k4 x4 y4) (.slice l4 u4 v4),obE b4 (Pg.oneO Pg.conS) (.slice k3 x3 y3) (.slice l3 u3 v3),obE b3 Pg.treeO (.slice k2 x2 y2) (.slice l2 u2 v2),obE b2 Pg.rootO (.slice a n c) (.slice a2 n2 c2),obE b1 (Pg.refO 2) nilS nilS,dcE b0 Dk.dc0 nilS nilS nilS,.mem P] →
    HDo prog (fun _=>True) (mBuild 28 #[(0,.slice (some ⟨vb,0,none⟩) 5 5),(1,obV Pg.trO (.slice ta tn tc) (.slice ta2 tn2 tc2))]) fun t58=>DoX prog (mStore 28 (.pointer (some ⟨b0,0,none⟩)) t58) W PK fun _ w=>S_foliantlaw35_sample_1 (.pointer (some ⟨b0,0,none⟩)) w K:=by
   intro W PK P vb ics ta tn tc ta2 tn2 tc2 hp hsl hall hy ho;refine hd_pure _ (fun _=>run_mdoc (its:=Pg.docS.items)) ?_;refine dc_put 5 rfl rfl rfl ho rfl fun w9 ho=>?_;unfold S_foliantlaw35_sample_1;exact ret_dc 5 ho rfl (hK _ _ P _ 6 ho rfl (hbase.trans hp) ⟨_,_,_,_,rfl,hsl,hall,hy⟩)
  refine⟨fun W=>(obE b2 Pg.rootO (.slice a n c) (.slice a2 n2 c2)).is W∧(obE b3 Pg.treeO (.slice k2 x2 y2) (.slice l2 u2 v2)).is W∧(obE b4 (Pg.oneO Pg.conS) (.slice k3 x3 y3) (.slice l3 u3 v3)).is W∧(obE b5 Pg.twoO (.slice k4 x4 y4) (.slice l4 u4 v4)).is W,⟨ho.at_ 3 rfl,ho.at_ 2 rfl,ho.at_ 1 rfl,ho.at_ 0 rfl⟩,?_⟩;refine hd_do _ (fun W h=>run_obload h.1) (hd_pure _ (fun _=>run_mit) ?_);refine hd_do _ (fun W h=>run_obload h.2.1) (hd_pure _ (fun _=>run_mit) ?_);refine hd_do _ (fun W h=>run_obload h.2.2.1) (hd_pure _ (fun _=>run_mit) ?_);refine hd_do _ (fun W h=>run_obload h.2.2.2) (hd_pure _ (fun _=>run_mit) ?_);refine hd_pure _ (fun _=>run_mstrm) (hd_pure _ (fun _=>run_mit) ?_);constructor
  ·skip
   refine o_items5 6 ho rfl (h1.le hcum) (h2.le hcum) (h3.le hcum) (h4.le hcum) fun vb P41 w38 icsP41 hl39 hsl hall ho=>?_;have hm40:=hcum.trans hl39;refine⟨⟨ho.at_ 3 rfl,ho.at_ 2 rfl,ho.at_ 1 rfl,ho.at_ 0 rfl⟩,?_⟩;refine c_key35 Dk.rootK ho fun w42 ho=>?_;refine⟨⟨ho.at_ 3 rfl,ho.at_ 2 rfl,ho.at_ 1 rfl,ho.at_ 0 rfl⟩,?_⟩;refine c_ref35 1 ho fun w43 ho=>?_;refine⟨⟨ho.at_ 3 rfl,ho.at_ 2 rfl,ho.at_ 1 rfl,ho.at_ 0 rfl⟩,?_⟩;refine o_chn2 6 ho rfl (leaf_ov _ _ _ _ _) (leaf_ov _ _ _ _ _) fun nb P47 w44 hl45 hch ho=>?_;have hm46:=hm40.trans hl45;have hsl:=hsl.le hl45;have hall:=IVs.le hl45 hall;refine⟨⟨ho.at_ 3 rfl,ho.at_ 2 rfl,ho.at_ 1 rfl,ho.at_ 0 rfl⟩,?_⟩;refine c_dict35 trP Pg.trO trP_ok (by decide) trP_k (by decide) (by decide +kernel) 6 ho rfl hch fun P51 ta tn tc ta2 tn2 tc2 w48 hl49 hy ho=>?_;have hm50:=hm46.trans hl49;have hsl:=hsl.le hl49;have hall:=IVs.le hl49 hall;refine⟨⟨ho.at_ 3 rfl,ho.at_ 2 rfl,ho.at_ 1 rfl,ho.at_ 0 rfl⟩,?_⟩;exact done hm50 hsl hall hy ho
  ·skip
   refine c_key35 Dk.rootK ho fun w52 ho=>?_;refine⟨⟨ho.at_ 3 rfl,ho.at_ 2 rfl,ho.at_ 1 rfl,ho.at_ 0 rfl⟩,?_⟩;constructor
   ·skip
    refine o_items5 6 ho rfl (h1.le hcum) (h2.le hcum) (h3.le hcum) (h4.le hcum) fun vb P56 w53 icsP56 hl54 hsl hall ho=>?_;have hm55:=hcum.trans hl54;refine⟨⟨ho.at_ 3 rfl,ho.at_ 2 rfl,ho.at_ 1 rfl,ho.at_ 0 rfl⟩,?_⟩;refine c_ref35 1 ho fun w57 ho=>?_;refine⟨⟨ho.at_ 3 rfl,ho.at_ 2 rfl,ho.at_ 1 rfl,ho.at_ 0 rfl⟩,?_⟩;refine o_chn2 6 ho rfl (leaf_ov _ _ _ _ _) (leaf_ov _ _ _ _ _) fun nb P61 w58 hl59 hch ho=>?_;have hm60:=hm55.trans hl59;have hsl:=hsl.le hl59;have hall:=IVs.le hl59 hall;refine⟨⟨ho.at_ 3 rfl,ho.at_ 2 rfl,ho.at_ 1 rfl,ho.at_ 0 rfl⟩,?_⟩;refine c_dict35 trP Pg.trO trP_ok (by decide) trP_k (by decide) (by decide +kernel) 6 ho rfl hch fun P65 ta tn tc ta2 tn2 tc2 w62 hl63 hy ho=>?_;have hm64:=hm60.trans hl63;have hsl:=hsl.le hl63;have hall:=IVs.le hl63 hall;refine⟨⟨ho.at_ 3 rfl,ho.at_ 2 rfl,ho.at_ 1 rfl,ho.at_ 0 rfl⟩,?_⟩;exact done hm64 hsl hall hy ho
   ·skip
    refine c_ref35 1 ho fun w66 ho=>?_;refine⟨⟨ho.at_ 3 rfl,ho.at_ 2 rfl,ho.at_ 1 rfl,ho.at_ 0 rfl⟩,?_⟩;constructor
    ·skip
     refine o_items5 6 ho rfl (h1.le hcum) (h2.le hcum) (h3.le hcum) (h4.le hcum) fun vb P70 w67 icsP70 hl68 hsl hall ho=>?_;have hm69:=hcum.trans hl68;refine⟨⟨ho.at_ 3 rfl,ho.at_ 2 rfl,ho.at_ 1 rfl,ho.at_ 0 rfl⟩,?_⟩;refine o_chn2 6 ho rfl (leaf_ov _ _ _ _ _) (leaf_ov _ _ _ _ _) fun nb P74 w71 hl72 hch ho=>?_;have hm73:=hm69.trans hl72;have hsl:=hsl.le hl72;have hall:=IVs.le hl72 hall;refine⟨⟨ho.at_ 3 rfl,ho.at_ 2 rfl,ho.at_ 1 rfl,ho.at_ 0 rfl⟩,?_⟩;refine c_dict35 trP Pg.trO trP_ok (by decide) trP_k (by decide) (by decide +kernel) 6 ho rfl hch fun P78 ta tn tc ta2 tn2 tc2 w75 hl76 hy ho=>?_;have hm77:=hm73.trans hl76;have hsl:=hsl.le hl76;have hall:=IVs.le hl76 hall;refine⟨⟨ho.at_ 3 rfl,ho.at_ 2 rfl,ho.at_ 1 rfl,ho.at_ 0 rfl⟩,?_⟩;exact done hm77 hsl hall hy ho
    ·skip
     refine o_chn2 6 ho rfl (leaf_ov _ _ _ _ _) (leaf_ov _ _ _ _ _) fun nb P82 w79 hl80 hch ho=>?_;have hm81:=hcum.trans hl80;refine⟨⟨ho.at_ 3 rfl,ho.at_ 2 rfl,ho.at_ 1 rfl,ho.at_ 0 rfl⟩,?_⟩;constructor
     ·skip
      refine o_items5 6 ho rfl (h1.le hm81) (h2.le hm81) (h3.le hm81) (h4.le hm81) fun vb P86 w83 icsP86 hl84 hsl hall ho=>?_;have hm85:=hm81.trans hl84;have hch:=hch.le hl84;refine⟨⟨ho.at_ 3 rfl,ho.at_ 2 rfl,ho.at_ 1 rfl,ho.at_ 0 rfl⟩,?_⟩;refine c_dict35 trP Pg.trO trP_ok (by decide) trP_k (by decide) (by decide +kernel) 6 ho rfl hch fun P90 ta tn tc ta2 tn2 tc2 w87 hl88 hy ho=>?_;have hm89:=hm85.trans hl88;have hsl:=hsl.le hl88;have hall:=IVs.le hl88 hall;refine⟨⟨ho.at_ 3 rfl,ho.at_ 2 rfl,ho.at_ 1 rfl,ho.at_ 0 rfl⟩,?_⟩;exact done hm89 hsl hall hy ho
     ·skip
      refine c_dict35 trP Pg.trO trP_ok (by decide) trP_k (by decide) (by decide +kernel) 6 ho rfl hch fun P94 ta tn tc ta2 tn2 tc2 w91 hl92 hy ho=>?_;have hm93:=hm81.trans hl92;refine⟨⟨ho.at_ 3 rfl,ho.at_ 2 rfl,ho.at_ 1 rfl,ho.at_ 0 rfl⟩,?_⟩;refine o_items5 6 ho rfl (h1.le hm93) (h2.le hm93) (h3.le hm93) (h4.le hm93) fun vb P98 w95 icsP98 hl96 hsl hall ho=>?_;have hm97:=hm93.trans hl96;have hy:=hy.le hl96;refine⟨⟨ho.at_ 3 rfl,ho.at_ 2 rfl,ho.at_ 1 rfl,ho.at_ 0 rfl⟩,?_⟩;exact done hm97 hsl hall hy ho
 have ho:=ho.drew;refine⟨fun W=>(obE b1 (Pg.refO 2) nilS nilS).is W,ho.at_ 0 rfl,?_⟩;refine hd_do _ (fun W h=>run_obload h) ?_;constructor
 ·skip
  refine c_key35 Dk.typeK ho fun w1 ho=>?_;refine⟨ho.at_ 0 rfl,?_⟩;constructor
  ·skip
   refine c_key35 Pg.catN ho fun w2 ho=>?_;refine⟨ho.at_ 0 rfl,?_⟩;constructor
   ·skip
    refine c_key35 Pg.pagesN ho fun w3 ho=>?_;refine⟨ho.at_ 0 rfl,?_⟩;constructor
    ·skip
     refine o_chn4 2 ho rfl (leaf_ov _ _ _ _ _) (leaf_ov _ _ _ _ _) (leaf_ov _ _ _ _ _) (leaf_ov _ _ _ _ _) fun nb N1 w4 hle1 hch ho=>?_;constructor
     ·skip
      refine c_dict35 rootP Pg.rootO rootP_ok (by decide) rootP_k (by decide) (by decide +kernel) 2 ho rfl hch fun N2 a n c a2 n2 c2 w6 hle2 hy ho=>?_;refine⟨ho.at_ 0 rfl,?_⟩;refine o_oba ho fun b2 w7 ho=>?_;refine⟨ho.at_ 1 rfl,?_⟩;refine ob_put 0 rfl rfl ho rfl fun w8 ho=>?_;exact fin (hle1.trans hle2) hy ho
     ·skip
      refine o_oba ho fun b2 w9 ho=>?_;refine⟨ho.at_ 1 rfl,?_⟩;refine c_dict35 rootP Pg.rootO rootP_ok (by decide) rootP_k (by decide) (by decide +kernel) 3 ho rfl hch fun N2 a n c a2 n2 c2 w10 hle2 hy ho=>?_;refine⟨ho.at_ 1 rfl,?_⟩;refine ob_put 0 rfl rfl ho rfl fun w11 ho=>?_;exact fin (hle1.trans hle2) hy ho
    ·skip
     refine o_oba ho fun b2 w12 ho=>?_;refine⟨ho.at_ 1 rfl,?_⟩;refine o_chn4 3 ho rfl (leaf_ov _ _ _ _ _) (leaf_ov _ _ _ _ _) (leaf_ov _ _ _ _ _) (leaf_ov _ _ _ _ _) fun nb N1 w13 hle1 hch ho=>?_;refine c_dict35 rootP Pg.rootO rootP_ok (by decide) rootP_k (by decide) (by decide +kernel) 3 ho rfl hch fun N2 a n c a2 n2 c2 w15 hle2 hy ho=>?_;refine⟨ho.at_ 1 rfl,?_⟩;refine ob_put 0 rfl rfl ho rfl fun w16 ho=>?_;exact fin (hle1.trans hle2) hy ho
   ·skip
    refine o_oba ho fun b2 w17 ho=>?_;refine⟨ho.at_ 1 rfl,?_⟩;refine c_key35 Pg.pagesN ho fun w18 ho=>?_;refine⟨ho.at_ 1 rfl,?_⟩;refine o_chn4 3 ho rfl (leaf_ov _ _ _ _ _) (leaf_ov _ _ _ _ _) (leaf_ov _ _ _ _ _) (leaf_ov _ _ _ _ _) fun nb N1 w19 hle1 hch ho=>?_;refine c_dict35 rootP Pg.rootO rootP_ok (by decide) rootP_k (by decide) (by decide +kernel) 3 ho rfl hch fun N2 a n c a2 n2 c2 w21 hle2 hy ho=>?_;refine⟨ho.at_ 1 rfl,?_⟩;refine ob_put 0 rfl rfl ho rfl fun w22 ho=>?_;exact fin (hle1.trans hle2) hy ho
  ·skip
   refine o_oba ho fun b2 w23 ho=>?_;refine⟨ho.at_ 1 rfl,?_⟩;refine c_key35 Pg.catN ho fun w24 ho=>?_;refine⟨ho.at_ 1 rfl,?_⟩;refine c_key35 Pg.pagesN ho fun w25 ho=>?_;refine⟨ho.at_ 1 rfl,?_⟩;refine o_chn4 3 ho rfl (leaf_ov _ _ _ _ _) (leaf_ov _ _ _ _ _) (leaf_ov _ _ _ _ _) (leaf_ov _ _ _ _ _) fun nb N1 w26 hle1 hch ho=>?_;refine c_dict35 rootP Pg.rootO rootP_ok (by decide) rootP_k (by decide) (by decide +kernel) 3 ho rfl hch fun N2 a n c a2 n2 c2 w28 hle2 hy ho=>?_;refine⟨ho.at_ 1 rfl,?_⟩;refine ob_put 0 rfl rfl ho rfl fun w29 ho=>?_;exact fin (hle1.trans hle2) hy ho
 ·skip
  refine o_oba ho fun b2 w30 ho=>?_;refine⟨ho.at_ 1 rfl,?_⟩;refine c_key35 Dk.typeK ho fun w31 ho=>?_;refine⟨ho.at_ 1 rfl,?_⟩;refine c_key35 Pg.catN ho fun w32 ho=>?_;refine⟨ho.at_ 1 rfl,?_⟩;refine c_key35 Pg.pagesN ho fun w33 ho=>?_;refine⟨ho.at_ 1 rfl,?_⟩;refine o_chn4 3 ho rfl (leaf_ov _ _ _ _ _) (leaf_ov _ _ _ _ _) (leaf_ov _ _ _ _ _) (leaf_ov _ _ _ _ _) fun nb N1 w34 hle1 hch ho=>?_;refine c_dict35 rootP Pg.rootO rootP_ok (by decide) rootP_k (by decide) (by decide +kernel) 3 ho rfl hch fun N2 a n c a2 n2 c2 w36 hle2 hy ho=>?_;refine⟨ho.at_ 1 rfl,?_⟩;refine ob_put 0 rfl rfl ho rfl fun w37 ho=>?_;exact fin (hle1.trans hle2) hy ho
end
section
open Eng Go.RowKit
theorem eqRc:eqT prog 43 [(0,false),(1,false),(2,false),(3,false)]:=⟨by kernel_rfl,by kernel_rfl,by kernel_rfl,by kernel_rfl⟩
theorem e_rcs {xo yo:Operand}{r:Rc}{w:World}{PK:PKT}{K:VWP}:DoX prog (mEq .eql 43 xo yo (rcV r) (rcV r)) w PK K=K (.bool true) w:=by
 refine do_eq ?_;have:=run_eql_agg (P:=prog) (w:=w) (xo:=xo) (yo:=yo) eqRc (xs:=(rcC r).toArray) (ys:=(rcC r).toArray) rfl;rw[show ([(0,false),(1,false),(2,false),(3,false)]:List (Nat×Bool)).all (fun p=>cellEq (rcC r).toArray[p.1]? (rcC r).toArray[p.1]?)=true by simp[rcC,cellEq]] at this;exact this
theorem rsamepage_ret (p:Pge)(x y:Value)(M:Mem)(w:World)(hw:p.res.wt≤1000000000)(hM:M.has w)(hx:PV M.A M.w x p)(hy:PV M.A M.w y p) :
  Ret prog 21 #[x,y] w (fun v w'=>v=.bool true∧Below w.heap.size w w'):=by
 obtain⟨xk,xc,rfl,hxo⟩:=hx;obtain⟨yk,yc,rfl,hyo⟩:=hy;refine ret_of fun K hK=>S_foliantref35_SamePage_ok ?_;unfold S_foliantref35_SamePage;have ho:OwnS M.A w w [.mem M]:=OwnS.memS hM;refine o_pgb p hxo.oneK hxo.oneC ho fun b2 w1 ho=>?_;refine o_pgb p hyo.oneK hyo.oneC ho fun b3 w2 ho=>?_;rw[fa_pg0,pg_num ho 1 rfl,fa_pg0,pg_num ho 0 rfl];simp only[rs,decide_true,fa_pg1,pg_media ho 1 rfl,pg_media ho 0 rfl,e_rcs,fa_pg2,pg_crop ho 1 rfl,pg_crop ho 0 rfl,fa_pg3,pg_rot ho 1 rfl,pg_rot ho 0 rfl,fa_pg4,pg_res ho 1 rfl,pg_res ho 0 rfl];refine c_below ho (R:=fun v=>v=.bool (Ob.eqb p.res p.res)) (rsame5_ret p.res.wt p.res p.res _ _ w2 (Nat.le_refl _) hw (OV.inw (ho.hasM 2 rfl) hxo) (OV.inw (ho.hasM 2 rfl) hyo)) ?_;rintro _ w3 rfl ho;rw[Ob.eqb_iff p.res p.res |>.2 rfl]
 try simp only[rs]
 exact hK _ _ ⟨rfl,(ho.toGives 2 rfl M.le_refl hM).below⟩
def smallD (d:Dc):Bool:=decide (d.items.length≤40)&&decide (Dk.size d≤3000)
theorem lsmall_ret (d:Dc)(dv:Value)(M:Mem)(w:World)(hd:Dk.Ok d)(hsz:Dk.size d≤1000000000000)(hM:M.has w)(hdv:DV M.A M.w dv d) :
  RetM prog 8 #[dv] M w (fun r _=>r=.bool (smallD d)):=by
 have hdv0:=hdv;obtain⟨vi,tk,tc,dcs,rfl,hda⟩:=hdv;refine retM_of hM fun K hK=>S_foliantlaw35_small_ok ?_;unfold S_foliantlaw35_small;refine o_dcb d hda.items.one hda.trailer.oneK hda.trailer.oneC (OwnS.memS hM) fun b1 w1 ho=>?_;rw[fa_d0,dc_items ho 0 rfl,sl_len Tryz.underlying22 (hda.items.now (ho.hasM 1 rfl))];simp only[rs];by_cases h1:(d.items.length:Int)≤40
 ·simp only[h1,decide_true,rs,dc_v ho 0 rfl];refine c_below ho (R:=fun v=>v=.int .i64 (Dk.size d:Nat)) (rsizeD_ret d _ M w1 hd.len hd.items hd.trailer hsz (ho.hasM 1 rfl) hdv0) ?_;rintro _ w2 rfl ho;simp only[rs];refine hK _ _ M _ 1 ho rfl M.le_refl ?_;unfold smallD;rw[decide_eq_true (show d.items.length≤40 by omega),Bool.true_and]
  congr 1
  exact decide_eq_decide.2 (by omega)
 ·simp only[h1,decide_false,rs,g_un];refine hK _ _ M _ 1 ho rfl M.le_refl ?_;unfold smallD;rw[decide_eq_false (show ¬d.items.length≤40 by omega)];rfl
namespace Pg
theorem docS_ok:Dk.Ok docS:=by
 refine⟨by decide,fun i hi=>?_,by decide +kernel⟩;have:i∈[(⟨1,0,rootO⟩:It),⟨2,0,treeO⟩,⟨3,0,oneO conS⟩,⟨4,0,twoO⟩,⟨5,0,strmO [113]⟩]:=hi;simp only[List.mem_cons,List.not_mem_nil,or_false] at this;rcases this with rfl|rfl|rfl|rfl|rfl<;>decide +kernel
theorem docS_leaves:leaves docS=([⟨3,[oneO conS,treeO]⟩,⟨4,[twoO,treeO]⟩],0):=leaves_docT docS_check
theorem docS_get0:get docS 0=(pg1,0):=get1 docS_check
theorem docS_get1:get docS 1=(pg2,0):=get2 docS_check
theorem docS_get2:(get docS 2).2=8:=by
 unfold get at_;rw[docS_leaves];rfl
theorem docS_place4:place docS 4=(1,true):=by
 unfold place;rw[docS_leaves];rfl
theorem docS_place2:place docS 2=(0,false):=by
 unfold place;rw[docS_leaves];rfl
theorem docS_at0:(at_ docS 0).1=⟨3,[oneO conS,treeO]⟩:=by
 unfold at_;rw[docS_leaves];rfl
theorem docS_con:val docS (oneO conS) conK=conS:=by kernel_rfl
theorem docS_streams:streams docS conS=[strmO [113],strmO [113]]:=by kernel_rfl
theorem docS_rect:rect docS (intO 1)=(rc0,3):=rfl
theorem dc0_list:(list Dk.dc0).2=10:=by kernel_rfl
theorem dc0_ok:Dk.Ok Dk.dc0:=⟨by decide,fun i hi=>(by cases hi),by decide +kernel⟩
end Pg
end
section
open Eng Go.RowKit
theorem run_rcExt0 {W:World}{x:Rc×Int}:(mExt (rectV x) 0).run prog W=.ok (.value (rcV x.1)) W:=rfl
theorem run_rcExt1 {W:World}{x:Rc×Int}:(mExt (rectV x) 1).run prog W=.ok (.value (.int .i64 x.2)) W:=rfl
theorem lives35_ret (M:Mem)(w:World)(hM:M.has w):RetM prog 9 #[] M w (fun r N=>r=.bool true):=by
 refine retM_of hM fun K hK=>S_foliantlaw35_lives_ok ?_;unfold S_foliantlaw35_lives;have hd:=Pg.docS_ok;refine c_mem (OwnS.memS hM) 0 rfl (lsample_ret M w hM) ?_;rintro y N1 w1 g1 ⟨vi,tk,tc,dcs,rfl,hda⟩ ho;refine o_dca ho fun b1 w2 ho=>?_;refine dc_put 0 hda.items.one hda.trailer.oneK hda.trailer.oneC ho rfl fun w3 ho=>?_;have ho:OwnS M.A w w3 [dcE b1 Pg.docS vi tk tc,.mem N1]:=ho;rw[dc_v ho 0 rfl];refine c_mem ho 1 rfl (pcount_ret Pg.docS _ N1 w3 hd (ho.hasM 1 rfl) hda.dv) ?_;rintro _ N2 w4 g2 rfl ho;have hda:=hda.le g2;rw[Pg.docS_leaves];simp only[ex];rw[dc_v ho 0 rfl];refine c_mem ho 1 rfl (pget_ret Pg.docS 0 _ N2 w4 hd (ho.hasM 1 rfl) hda.dv) ?_;rintro _ N3 w5 g3 ⟨y0,rfl,hp0⟩ ho;have hda:=hda.le g3;rw[Pg.docS_get0] at hp0 ⊢;simp only[errV,ex];obtain⟨k0,c0,rfl,hp0⟩:=hp0;refine o_pga ho fun b4 w6 ho=>?_;refine pg_put 0 hp0.oneK hp0.oneC ho rfl fun w7 ho=>?_;rw[dc_v ho 1 rfl];refine c_mem ho 2 rfl (pget_ret Pg.docS 1 _ N3 w7 hd (ho.hasM 2 rfl) hda.dv) ?_;rintro _ N4 w8 g4 ⟨y1,rfl,hp1⟩ ho;have hda:=hda.le g4;rw[Pg.docS_get1] at hp1 ⊢;simp only[errV,ex];obtain⟨k1,c1,rfl,hp1⟩:=hp1;refine o_pga ho fun b6 w9 ho=>?_;refine pg_put 0 hp1.oneK hp1.oneC ho rfl fun w10 ho=>?_;rw[dc_v ho 2 rfl];refine c_mem ho 3 rfl (pget_ret Pg.docS 2 _ N4 w10 hd (ho.hasM 3 rfl) hda.dv) ?_;rintro _ N5 w11 g5 ⟨y2,rfl,hp2⟩ ho;have hda:=hda.le g5;rw[Pg.docS_get2];simp only[errV,ex];obtain⟨k2,c2,rfl,hp2⟩:=hp2;refine o_pga ho fun b8 w12 ho=>?_;refine pg_put 0 hp2.oneK hp2.oneC ho rfl fun w13 ho=>?_;have ho:=ho.tail;have ho:OwnS M.A w w13 [pgE b6 Pg.pg2 k1 c1,pgE b4 Pg.pg1 k0 c0,dcE b1 Pg.docS vi tk tc,.mem N5]:=ho;rw[dc_v ho 2 rfl];refine c_mem ho 3 rfl (pplace_ret Pg.docS 4 _ N5 w13 hd (ho.hasM 3 rfl) hda.dv) ?_;rintro _ N6 w14 g6 rfl ho;have hda:=hda.le g6;rw[Pg.docS_place4];simp only[ex];rw[dc_v ho 2 rfl];refine c_mem ho 3 rfl (pplace_ret Pg.docS 2 _ N6 w14 hd (ho.hasM 3 rfl) hda.dv) ?_;rintro _ N7 w15 g7 rfl ho;have hda:=hda.le g7;rw[Pg.docS_place2];simp only[ex];rw[dc_v ho 2 rfl];refine c_mem ho 3 rfl (pcontent_ret Pg.docS 0 _ N7 w15 hd (by rw[Pg.docS_get0]) ⟨3,[Pg.oneO Pg.conS,Pg.treeO]⟩ Pg.docS_at0 Pg.conS (Pg.oneO Pg.conS) [Pg.treeO] rfl Pg.docS_con (by decide)
  (by rw[Pg.docS_streams];decide) (by rw[Pg.docS_streams];decide) (by rw[Pg.docS_streams];decide) (ho.hasM 3 rfl) hda.dv) ?_
 rintro _ N8 w16 g8 rfl ho;have hda:=hda.le g8;rw[Pg.docS_streams];simp only[ex];have hle8:M.le N8:=g1.trans (g2.trans (g3.trans (g4.trans (g5.trans (g6.trans (g7.trans g8))))));have ho:OwnS M.A w w16 [pgE b6 Pg.pg2 k1 c1,pgE b4 Pg.pg1 k0 c0,dcE b1 Pg.docS vi tk tc,.mem N8]:=ho
 -- the tail
 have fin:∀{W:World} {N:Mem} {L:List Ent},N8.le N→OwnS M.A w W ([pgE b6 Pg.pg2 k1 c1,pgE b4 Pg.pg1 k0 c0,dcE b1 Pg.docS vi tk tc,.mem N]++L) →
   S_foliantlaw35_lives_0 (.int .i64 2) (.int .i64 0) (.pointer (some ⟨b4,0,none⟩)) (.int .i64 0) (.pointer (some ⟨b6,0,none⟩)) (.int .i64 0) (.int .i64 8) (.int .i64 1) (.bool true) (.bool false) (.string ⟨#[113,10,113]⟩) (.int .i64 0) (.int .i64 3) W K:=by
  intro W N L hle ho;unfold S_foliantlaw35_lives_0;rw[m_dc0];refine c_mem ho 3 rfl (plist_ret Dk.dc0 _ N W Pg.dc0_ok (ho.hasM 3 rfl) (dc0_at N).dv) ?_;rintro _ N9 w17 g9 ⟨v9,cs9,rfl,-,-⟩ ho;have ho:OwnS M.A w w17 ([pgE b6 Pg.pg2 k1 c1,pgE b4 Pg.pg1 k0 c0,dcE b1 Pg.docS vi tk tc,.mem N9]++L):=ho;rw[Pg.dc0_list];have es:∀{xo yo:Operand} {PK:PKT} {K:VWP},DoX prog (mEq .eql 9 xo yo (.string ⟨#[113,10,113]⟩) (.string ⟨#[113,10,113]⟩)) w17 PK K=K (.bool true) w17:=e_str (a:=[113,10,113]) (b:=[113,10,113]);simp only[errV,ex,rs,decide_true];rw[fa_pg0,pg_num ho 1 rfl];simp only[Pg.pg1,rs,decide_true];rw[fa_pg1,pg_media ho 1 rfl,m_rc];simp only[Pg.pg1,rs,e_rcs];rw[fa_pg2,pg_crop ho 1 rfl,fa_pg1,pg_media ho 1 rfl];simp only[Pg.pg1,rs,e_rcs,decide_true];rw[fa_pg2,pg_crop ho 0 rfl,m_rc];simp only[Pg.pg2,rs,e_rcs];rw[fa_pg3,pg_rot ho 0 rfl];simp only[Pg.pg2,rs,decide_true];rw[fa_pg4,fa_o0];rw[show DoX prog (mLoad 3 (.pointer (some ⟨b6,0+10,none⟩))) w17 (Eng.pk K)=_ from funext fun _=>l_cell nInt5 (ho.cell 0 rfl 10 rfl)];simp only[show decide (Pg.pg2.res.k=7)=true by decide,rs,decide_true,es,Bool.not_false];exact hK _ _ N9 _ 3 ho rfl (hle8.trans (hle.trans g9)) rfl
 have rt:∀{W:World} {N:Mem} {L:List Ent} {F:VWP} {PK:PKT} {xv:Value} (_:N8.le N) (_:OV N.A N.w xv (Pg.intO 1)) (i:Nat) (_:OwnS M.A w W L) (_:L[i]?=some (.mem N))
   (_:∀W N',N8.le N'→OwnS M.A w W (L.set i (.mem N'))→F (rectV (Pg.rc0,3)) W),CallX prog 18 #[dcV Pg.docS vi tk tc,xv] W PK F:=by
  intro W N L F PK xv hle hx i ho hi hF;refine c_mem ho i hi (prect_ret Pg.docS (Pg.intO 1) _ xv N W hd (by decide) (ho.hasM i hi) (hda.le hle).dv hx) ?_;rintro _ N' w' hle' rfl ho;rw[Pg.docS_rect];exact hF w' N' (hle.trans hle') ho
 have ho:=ho.drew;refine⟨fun W=>(dcE b1 Pg.docS vi tk tc).is W,ho.at_ 2 rfl,?_⟩;refine hd_do _ (fun W h=>run_dcv h) ?_
 -- the box and its first number
 have bx:∀{W:World} {N:Mem} {L:List Ent} {F:VWP} {PK:PKT} (_:N8.le N) (i:Nat) (_:OwnS M.A w W L) (_:L[i]?=some (.mem N))
   (_:∀W N' a n c xv p,N.le N'→OwnS M.A w W (L.set i (.mem N'))→OV N'.A N'.w xv (Pg.intO 1)→(∀W,(mIA 24 (.slice a n c) (.int .i64 0)).run prog W=.ok (.value (.pointer (some p))) W)→(∀W,N'.has W→(mLoad 26 (.pointer (some p))).run prog W=.ok (.value xv) W)→F (obV (Pg.boxI 1 2 3 4) nilS (.slice a n c)) W),
   CallX prog 34 #[.int .i64 1,.int .i64 2,.int .i64 3,.int .i64 4] W PK F:=by
  intro W N L F PK hle i ho hi hF;refine c_mem ho i hi (lbox_ret 1 2 3 4 N W (ho.hasM i hi)) ?_;rintro _ N' w1 hle' ⟨a,n,c,rfl,hc⟩ ho;obtain⟨xv,p,hx,r1,r2⟩:=chn_at hc (i:=0) (by decide);exact hF w1 N' a n c xv p hle' ho hx r1 r2
 have fld:∀{W:World} {a:Option Addr} {n c:Nat},(mFld 26 (obV (Pg.boxI 1 2 3 4) nilS (.slice a n c)) 5).run prog W=.ok (.value (.slice a n c)) W:=by intros;kernel_rfl
 constructor
 ·refine bx N8.le_refl 3 ho rfl fun W2 N2 a n c xv p hle2 ho hx r1 r2=>?_;have ho:OwnS M.A w W2 [pgE b6 Pg.pg2 k1 c1,pgE b4 Pg.pg1 k0 c0,dcE b1 Pg.docS vi tk tc,.mem N2]:=ho;refine⟨ho.at_ 2 rfl,hd_pure _ (fun _=>fld) (hd_pure _ r1 ?_)⟩;constructor
  ·refine do_eq (r2 W2 (ho.hasM 3 rfl)) |>.mpr ⟨ho.at_ 2 rfl,?_⟩;constructor
   ·refine rt hle2 hx 3 ho rfl fun W3 N3 hle3 ho=>?_;have ho:OwnS M.A w W3 [pgE b6 Pg.pg2 k1 c1,pgE b4 Pg.pg1 k0 c0,dcE b1 Pg.docS vi tk tc,.mem N3]:=ho;refine hd_pure _ (fun _=>run_rcExt0) (hd_pure _ (fun _=>run_rcExt1) ?_);refine o_rca ho fun b5 w5 ho=>⟨ho.at_ 3 rfl,?_⟩;refine rc_put 0 ho rfl fun w6 ho=>?_;exact fin (L:=[]) hle3 ho.tail
   ·refine o_rca ho fun b5 w5 ho=>⟨ho.at_ 3 rfl,?_⟩;refine rt hle2 hx 4 ho rfl fun W3 N3 hle3 ho=>?_;refine hd_pure _ (fun _=>run_rcExt0) (hd_pure _ (fun _=>run_rcExt1) ?_);refine rc_put 0 ho rfl fun w6 ho=>?_;exact fin (L:=[]) hle3 ho.tail
  ·refine o_rca ho fun b5 w5 ho=>⟨ho.at_ 3 rfl,?_⟩;refine do_eq (r2 w5 (ho.hasM 4 rfl)) |>.mpr ⟨ho.at_ 3 rfl,?_⟩;refine rt hle2 hx 4 ho rfl fun W3 N3 hle3 ho=>?_;refine hd_pure _ (fun _=>run_rcExt0) (hd_pure _ (fun _=>run_rcExt1) ?_);refine rc_put 0 ho rfl fun w6 ho=>?_;exact fin (L:=[]) hle3 ho.tail
 ·refine o_rca ho fun b5 w5 ho=>⟨ho.at_ 3 rfl,?_⟩;refine bx N8.le_refl 4 ho rfl fun W2 N2 a n c xv p hle2 ho hx r1 r2=>?_;have ho:OwnS M.A w W2 [rcE b5 Pg.rc0,pgE b6 Pg.pg2 k1 c1,pgE b4 Pg.pg1 k0 c0,dcE b1 Pg.docS vi tk tc,.mem N2]:=ho;refine⟨ho.at_ 3 rfl,hd_pure _ (fun _=>fld) (hd_pure _ r1 ?_)⟩;refine do_eq (r2 W2 (ho.hasM 4 rfl)) |>.mpr ⟨ho.at_ 3 rfl,?_⟩;refine rt hle2 hx 4 ho rfl fun W3 N3 hle3 ho=>?_;refine hd_pure _ (fun _=>run_rcExt0) (hd_pure _ (fun _=>run_rcExt1) ?_);refine rc_put 0 ho rfl fun w6 ho=>?_;exact fin (L:=[]) hle3 ho.tail
end
section
open Eng Go.RowKit
theorem run_notP {P:Program}{W:World}{b:Bool}:(mUn .not (.bool b)).run P W=.ok (.value (.bool (!b))) W:=mv_run (by simp[Op.unary])
theorem page_at {M:Mem}{vi:Value}{l:List Pge}{cs:List Value}(hs:SlA M.A M.w vi 16 l.length cs)(hall:PgVs M.A M.w cs l){i:Nat}(hi:i < l.length) :
  ∃(vk vc:Value) (b off:Nat),OV M.A M.w (obV l[i].res vk vc) l[i].res∧(∀W,(mIA 31 vi (.int .i64 (i:Int))).run prog W=.ok (.value (.pointer (some ⟨b,off,none⟩))) W) ∧
   (∀W,M.has W→(mLoad 48 (.pointer (some ⟨b,off,none⟩))).run prog W=.ok (.value (pgV l[i] vk vc)) W)∧∀W,M.has W→(mLoad 3 (.pointer (some ⟨b,off,none⟩))).run prog W=.ok (.value (.int .i64 l[i].num)) W:=by
 obtain⟨b,off,cap,rfl,_⟩:=sl_open hs.1 (by omega);obtain⟨a,⟨vk,vc,rfl,hc⟩,hget⟩:=Rws.get pgR_len i hi hall;have cell:∀W,M.has W→∀j v,(pgC l[i] vk vc)[j]?=some v→W.cell? ⟨b,off+i*16+j,none⟩=some v:=fun W hW j v hj=>by
  obtain⟨b',off',cap',he,hcell⟩:=sl_open (hs.now hW) (by omega);cases he;rw[Nat.add_assoc];exact hcell _ _ (hget j v hj)
 refine⟨vk,vc,b,off+i*16,hc,fun W=>?_,fun W hW=>?_,fun W hW=>?_⟩
 ·refine (run_ia Tryz.underlying31 szPg (by omega) (by omega)).trans ?_;rw[Int.toNat_natCast]
 ·exact run_load_at (AtV.agg aggPg (cs:=pgC l[i] vk vc) rfl (cell W hW))
 ·exact run_load_cell nInt5 (by have:=cell W hW 0 _ rfl;rwa [Nat.add_zero] at this)
section
variable {w:World}{PK:PKT}{K:VWP}{S:Nat→Prop}{w0:World}{L:List Ent}
end
theorem Pg.page_wt {d:Dc}(hd:Dk.Ok d){x:Lf}(hx:ChOk x.chain)(h:(Pg.page d x).2=0):(Pg.page d x).1.res.wt≤1000000000∧Pg.PgOk (Pg.page d x).1:=by
 obtain⟨hok,-,-,hp⟩:=Pg.page_ok h;refine⟨?_,hok⟩;rw[hp];show (if _ then _ else _:Ob).wt≤_;split
 ·exact Pg.inh_wt hd hx.wt _
 ·decide
theorem Pg.list_wt {d:Dc}(hd:Dk.Ok d)(h:(Pg.list d).2=0){i:Nat}(hi:i < (Pg.list d).1.length):(Pg.list d).1[i].res.wt≤1000000000∧Pg.PgOk (Pg.list d).1[i]:=by
 obtain⟨hl0,hlm,hall⟩:=Pg.list_ok h;have hi':i < (Pg.leaves d).1.length:=by rw[hlm,List.length_map] at hi;exact hi
 have e:(Pg.list d).1[i]=(Pg.page d (Pg.leaves d).1[i]).1:=by
  have h2:(Pg.list d).1[i]?=((Pg.leaves d).1.map (fun x=>(Pg.page d x).1))[i]?:=by rw[hlm]
  rw[List.getElem?_eq_getElem hi,List.getElem?_map,List.getElem?_eq_getElem hi'] at h2;simpa using h2
 have hx:=Pg.leaf_ok hd hi';exact e▸Pg.page_wt hd hx (hall _ (List.getElem_mem hi'))
end
end Go.Proofs.YtoobidofdpdkbaaGreatDoor




namespace Go.Proofs.YtoobidofdpdkbaaGreatDoor
section
open Eng Go.RowKit
section
variable {w:World}{PK:PKT}{K:VWP}{S:Nat→Prop}{w0:World}{L:List Ent}
theorem o_apOb (i:Nat){v v2:Value}{n m:Nat}{xs news:List Value}{cb:Array Bool}(ho:OwnS S w0 w L)(hi:L[i]?=some (.urow 26 6 v n xs))(hs:Sl w v2 6 m news)(h1:∀u∈news,u.oneCell'=true)(hb:n+m≤100000000000)
  (k:∀v' w',OwnS S w0 w' (L.set i (.urow 26 6 v' (n+m) (xs++news)))→K v' w'):DoX prog (mB .append #[24,24] 24 cb #[v,v2]) w PK K:=
 o_appendU i Tryz.underlying24 elOb (by decide) ho hi hs h1 (by omega) (by omega) k
end
end
section
open Eng Go.RowKit
def intsW (l:List Int):List Value:=l.map fun n=>.int .i64 n
theorem intsW_one {l:List Int}:∀x∈intsW l,x.oneCell'=true:=by
 intro x hx;obtain⟨n,-,rfl⟩:=List.mem_map.1 hx;rfl
theorem intsW_get {l:List Int}{i:Nat}(h:i < l.length):(intsW l)[i]?=some (.int .i64 l[i]):=by simp[intsW,h]
def wkC (a b:Value):List Value:=[a,b]
def wkV (a b:Value):Value:=.agg (wkC a b).toArray
def wkE (bl:Nat)(a b:Value):Ent:=.cells bl (wkC a b) 126
structure WkAt (A:Nat→Prop) (w:World) (a b:Value) (s:Pw):Prop where
 met:SlA A w a 1 s.met.length (intsW s.met)
 pgs:∃cs,SlA A w b 2 s.pages.length cs∧RVs A w cs s.pages
theorem WkAt.le {M N:Mem}(h:M.le N){a b:Value}{s:Pw}(k:WkAt M.A M.w a b s):WkAt N.A N.w a b s:=by
 obtain⟨k1,cs,k2,k3⟩:=k;exact⟨k1.le h,cs,k2.le h,k3.le h⟩
theorem WkAt.one1 {A:Nat→Prop}{w:World}{a b:Value}{s:Pw}(k:WkAt A w a b s):a.oneCell'=true:=k.met.one
theorem WkAt.one2 {A:Nat→Prop}{w:World}{a b:Value}{s:Pw}(k:WkAt A w a b s):b.oneCell'=true:=by
 obtain⟨_,cs,k2,_⟩:=k;exact k2.one
theorem wkC_one {a b:Value}(h1:a.oneCell'=true)(h2:b.oneCell'=true):∀u∈wkC a b,u.oneCell'=true:=by
 intro u hu;simp only[wkC,List.mem_cons,List.not_mem_nil,or_false] at hu;rcases hu with rfl|rfl
 ·exact h1
 ·exact h2
theorem aggWk:aggN prog 126=some 2:=by kernel_rfl
theorem szWk:(Tryz.prog.info? 126).map (·.size)=some 2:=by kernel_rfl
theorem fo_wk0:fOff prog 126 0=some 0:=by kernel_rfl
theorem fo_wk1:fOff prog 126 1=some 1:=by kernel_rfl
theorem nSlInt:notAgg prog 124=true:=by kernel_rfl
theorem elInt:elB prog 3 1 8=true:=by kernel_rfl
section
variable {w:World}{PK:PKT}{K:VWP}{S:Nat→Prop}{w0:World}{L:List Ent}
theorem fa_wk0 {b off:Nat}:DoX prog (mFA 126 (.pointer (some ⟨b,off,none⟩)) 0) w PK K=K (.pointer (some ⟨b,off,none⟩)) w:=f_addr fo_wk0
theorem fa_wk1 {b off:Nat}:DoX prog (mFA 126 (.pointer (some ⟨b,off,none⟩)) 1) w PK K=K (.pointer (some ⟨b,off+1,none⟩)) w:=f_addr fo_wk1
theorem o_wkb {a c:Value}(h1:a.oneCell'=true)(h2:c.oneCell'=true)(ho:OwnS S w0 w L)(k:∀b w',OwnS S w0 w' (wkE b a c::L)→K (.pointer (some ⟨b,0,none⟩)) w'):DoX prog (mBox 126 (wkV a c)) w PK K:=by
 cases a<;>first|(cases h1;done)|skip
 all_goals cases c<;>first|(cases h2;done)|exact o_new (fun b=>.pointer (some ⟨b,0,none⟩)) (wkC _ _) 126 (fun _=>by kernel_rfl) ho k
theorem o_wka (ho:OwnS S w0 w L)(k:∀b w',OwnS S w0 w' (wkE b nilS nilS::L)→K (.pointer (some ⟨b,0,none⟩)) w'):DoX prog (mAlloc 126) w PK K:=
 o_new (fun b=>.pointer (some ⟨b,0,none⟩)) (wkC nilS nilS) 126 (fun _=>by kernel_rfl) ho k
theorem wk_put (j:Nat){b:Nat}{a c a' c':Value}(h1:a'.oneCell'=true)(h2:c'.oneCell'=true)(ho:OwnS S w0 w L)(hi:L[j]?=some (wkE b a c))(k:∀w',OwnS S w0 w' (L.set j (wkE b a' c'))→K undef w') :
  DoX prog (mStore 126 (.pointer (some ⟨b,0,none⟩)) (wkV a' c')) w PK K:=o_put j ho hi (new:=wkC a' c') szWk (wkC_one h1 h2) rfl k
theorem wk_v (ho:OwnS S w0 w L)(j:Nat){b:Nat}{a c:Value}(hi:L[j]?=some (wkE b a c)):DoX prog (mLoad 126 (.pointer (some ⟨b,0,none⟩))) w PK K=K (wkV a c) w:=l_at (ho.agg j hi aggWk)
theorem wk_met (ho:OwnS S w0 w L)(j:Nat){b:Nat}{a c:Value}(hi:L[j]?=some (wkE b a c)):DoX prog (mLoad 124 (.pointer (some ⟨b,0,none⟩))) w PK K=K a w:=l_cell nSlInt (ho.cell j hi 0 rfl)
theorem wk_pgs (ho:OwnS S w0 w L)(j:Nat){b:Nat}{a c:Value}(hi:L[j]?=some (wkE b a c)):DoX prog (mLoad 78 (.pointer (some ⟨b,0+1,none⟩))) w PK K=K c w:=l_cell nSlRl (ho.cell j hi 1 rfl)
theorem wk_put0 (j:Nat){b:Nat}{a c a':Value}(h1:a'.oneCell'=true)(ho:OwnS S w0 w L)(hi:L[j]?=some (wkE b a c))(k:∀w',OwnS S w0 w' (L.set j (wkE b a' c))→K undef w') :
  DoX prog (mStore 124 (.pointer (some ⟨b,0,none⟩)) a') w PK K:=o_store j ho hi (by kernel_rfl) h1 (by show 0 < 2;omega) k
theorem wk_put1 (j:Nat){b:Nat}{a c c':Value}(h1:c'.oneCell'=true)(ho:OwnS S w0 w L)(hi:L[j]?=some (wkE b a c))(k:∀w',OwnS S w0 w' (L.set j (wkE b a c'))→K undef w') :
  DoX prog (mStore 78 (.pointer (some ⟨b,0+1,none⟩)) c') w PK K:=o_store j ho hi (by kernel_rfl) h1 (by show 0+1 < 2;omega) k
theorem ret_wk2 {K:Ending→World→Prop}{b:Nat}{a c u:Value}(i:Nat)(ho:OwnS S w0 w L)(hi:L[i]?=some (wkE b a c))(k:K (.returned (.tuple #[wkV a c,u])) w):RetX prog [.cell (.pointer (some ⟨b,0,none⟩)) 126,.val u] w K:=
 ret_v2 (rv_cell (ho.agg i hi aggWk)) rv_val k
theorem o_ints0 (ho:OwnS S w0 w L)(k:∀v w',OwnS S w0 w' (.urow 3 1 v 0 []::L)→K v w'):DoX prog (mBuildS 124 0 #[]) w PK K:=
 o_new (fun b=>.slice (some ⟨b,0,none⟩) 0 0) [] 3 (fun _=>by kernel_rfl) ho fun b w1 ho=>k _ _ (ho.toU 1 0 0 (by simp) (by omega) (by omega))
theorem o_ints1 (n:Int)(ho:OwnS S w0 w L)(k:∀b w',OwnS S w0 w' (.cells b (intsW [n]) 3::L)→K (.slice (some ⟨b,0,none⟩) 1 1) w'):DoX prog (mBuildS 124 1 #[(0,.int .i64 n)]) w PK K:=
 o_new (fun b=>.slice (some ⟨b,0,none⟩) 1 1) (intsW [n]) 3 (fun _=>by kernel_rfl) ho k
theorem o_rls0 (ho:OwnS S w0 w L)(k:∀v w',OwnS S w0 w' (.urow 83 2 v 0 []::L)→K v w'):DoX prog (mBuildS 78 0 #[]) w PK K:=
 o_new (fun b=>.slice (some ⟨b,0,none⟩) 0 0) [] 83 (fun _=>by kernel_rfl) ho fun b w1 ho=>k _ _ (ho.toU 2 0 0 (by simp) (by omega) (by omega))
theorem o_rls1 (x:Lf){v:Value}(h:v.oneCell'=true)(ho:OwnS S w0 w L)(k:∀b w',OwnS S w0 w' (rlE b x v::L)→K (.slice (some ⟨b,0,none⟩) 1 1) w'):DoX prog (mBuildS 78 1 #[(0,rlV x v)]) w PK K:=by
 cases v<;>first|(cases h;done)|exact o_new (fun b=>.slice (some ⟨b,0,none⟩) 1 1) (lfC x _) 83 (fun _=>by kernel_rfl) ho k
theorem o_apInt (i:Nat){v v2:Value}{n m:Nat}{xs news:List Value}{cb:Array Bool}(ho:OwnS S w0 w L)(hi:L[i]?=some (.urow 3 1 v n xs))(hs:Sl w v2 1 m news)(h1:∀u∈news,u.oneCell'=true)(hb:n+m≤100000000000)
  (k:∀v' w',OwnS S w0 w' (L.set i (.urow 3 1 v' (n+m) (xs++news)))→K v' w'):DoX prog (mB .append #[124,124] 124 cb #[v,v2]) w PK K:=
 o_appendU i Tryz.underlying124 elInt (by decide) ho hi hs h1 (by omega) (by omega) k
theorem o_apRl (i:Nat){v v2:Value}{n m:Nat}{xs news:List Value}{cb:Array Bool}(ho:OwnS S w0 w L)(hi:L[i]?=some (.urow 83 2 v n xs))(hs:Sl w v2 2 m news)(h1:∀u∈news,u.oneCell'=true)(hb:n+m≤100000000000)
  (k:∀v' w',OwnS S w0 w' (L.set i (.urow 83 2 v' (n+m) (xs++news)))→K v' w'):DoX prog (mB .append #[78,78] 78 cb #[v,v2]) w PK K:=
 o_appendU i Tryz.underlying78 elRl (by decide) ho hi hs h1 (by omega) (by omega) k
end
theorem run_rl {W:World}{n:Int}{v:Value}(h:v.oneCell'=true)(ch:List Ob):(mBuild 83 #[(0,.int .i64 n),(1,v)]).run prog W=.ok (.value (rlV ⟨n,ch⟩ v)) W:=by
 cases v<;>first|(cases h;done)|kernel_rfl
theorem run_wkpgs {W:World}{b:Nat}{a c:Value}(h:(wkE b a c).is W):(mLoad 78 (.pointer (some ⟨b,0+1,none⟩))).run prog W=.ok (.value c) W:=run_load_cell nSlRl (cells_cell (T:=126) (cs:=wkC a c) h rfl)
theorem run_wkmet {W:World}{b:Nat}{a c:Value}(h:(wkE b a c).is W):(mLoad 124 (.pointer (some ⟨b,0,none⟩))).run prog W=.ok (.value a) W:=run_load_cell nSlInt (cells_cell (T:=126) (cs:=wkC a c) h rfl)
theorem run_wkv {W:World}{b:Nat}{a c:Value}(h:(wkE b a c).is W):(mLoad 126 (.pointer (some ⟨b,0,none⟩))).run prog W=.ok (.value (wkV a c)) W:=
 run_load_at (AtV.agg aggWk (cs:=wkC a c) rfl fun j v hj=>by rw[Nat.zero_add];exact cells_cell (T:=126) h hj)
theorem run_obn64 {W:World}{b:Nat}{o:Ob}{vk vc:Value}(h:(obE b o vk vc).is W):(mLoad 2 (.pointer (some ⟨b,0+1,none⟩))).run prog W=.ok (.value (.int .i64 o.n)) W:=run_load_cell nI64p (cells_cell (T:=26) (cs:=obC o vk vc) h rfl)
theorem run_obkids {W:World}{b:Nat}{o:Ob}{vk vc:Value}(h:(obE b o vk vc).is W):(mLoad 24 (.pointer (some ⟨b,0+5,none⟩))).run prog W=.ok (.value vc) W:=run_load_cell nSlObP (cells_cell (T:=26) (cs:=obC o vk vc) h rfl)
def StepOk (d:Dc)(vi tk tc:Value)(g:Nat)(ab:List Ob):Prop:=∀(r:Ob) (s:Pw) (rv wayv a c:Value) (dcs:List Value) (M:Mem) (w:World),r.wt≤1000000000→Pg.Bd s→M.has w→DocAt M.A M.w d vi tk tc dcs→OV M.A M.w rv r→Chn M.A M.w wayv ab.reverse→WkAt M.A M.w a c s →
 RetM prog 68 #[dcV d vi tk tc,rv,wayv,wkV a c] M w (fun res N=>∃a' c',res=.tuple #[wkV a' c',.int .i64 (Pg.node d g r ab s).2]∧WkAt N.A N.w a' c' (Pg.node d g r ab s).1)
theorem rstep_2 {d:Dc}{vi tk tc:Value}{dcs:List Value}{g:Nat}{ab:List Ob}{r o kd:Ob}{s:Pw}{b4 b5 b7 b8 b10 b13:Nat}{rk rc ok oc kk kc mv pv wayv z:Value}{M N:Mem}{w W:World}{K:Ending→World→Prop}(lf:Bool)(R:Pw×Int)
  (IH:StepOk d vi tk tc g (o::ab)) (hg:g≤23) (hM:M.le N) (hb:Pg.Bd s) (hbl:lf=true→s.pages.length < 2048) (hda:DocAt N.A N.w d vi tk tc dcs) (hkd:OV N.A N.w (obV kd kk kc) kd) (hkw:kd.wt≤1000000000) (hway:Chn N.A N.w wayv (o::ab).reverse) (hwk:WkAt N.A N.w mv pv s)
  (hR:R=if lf=true then (⟨s.met,s.pages++[⟨r.n,o::ab⟩]⟩,0) else Pg.foldE (fun k s=>Pg.node d g k (o::ab) s) kd.kids s)
  (ho:OwnS M.A w W [obE b13 kd kk kc,obE b10 o ok oc,wkE b8 nilS nilS,wkE b7 mv pv,obE b5 r rk rc,dcE b4 d vi tk tc,.mem N])
  (hK:∀(v:Value) (w':World) (N:Mem) (L:List Ent) (i:Nat),OwnS M.A w w' L→L[i]?=some (.mem N)→M.le N→(∃a' c',v=.tuple #[wkV a' c',.int .i64 R.2]∧WkAt N.A N.w a' c' R.1)→K (.returned v) w') :
  S_foliantref35_step_2 (.pointer (some ⟨b4,0,none⟩)) (.pointer (some ⟨b5,0,none⟩)) (.pointer (some ⟨b7,0,none⟩)) (.pointer (some ⟨b8,0,none⟩)) z (.bool lf) (.pointer (some ⟨b13,0,none⟩)) wayv W K:=by
 unfold S_foliantref35_step_2;cases lf with
|true=>
  rw[if_pos rfl] at hR;have hbl:=hbl rfl;rw[i_t];obtain⟨hmet,cs,hpg,hpv⟩:=hwk;have fin:∀{W:World} {v:Value} {PK:PKT},OwnS M.A w W (.urow 83 2 v (0+s.pages.length+1) ([]++cs++lfC ⟨r.n,o::ab⟩ wayv)::[obE b13 kd kk kc,obE b10 o ok oc,wkE b8 nilS nilS,wkE b7 mv pv,obE b5 r rk rc,dcE b4 d vi tk tc,.mem N]) →
    HDo prog (fun _=>True) (mFA 126 (.pointer (some ⟨b7,0,none⟩)) 1) fun t117=>DoX prog (mStore 78 t117 v) W PK fun _ w=>S_foliantref35_step_3 (.pointer (some ⟨b7,0,none⟩)) (.pointer (some ⟨b8,0,none⟩)) w K:=by
   intro W v PK ho;refine hd_pure _ (fun _=>run_fa fo_wk1) ?_;refine wk_put1 4 (urow_one (ho.at_ 0 rfl)) ho rfl fun w2 ho=>?_;obtain⟨N2,hle,hrow,ho⟩:=OwnS.freezeU (L:=[obE b13 kd kk kc,obE b10 o ok oc,wkE b8 nilS nilS,wkE b7 mv v,obE b5 r rk rc,dcE b4 d vi tk tc,.mem N]) ho 6 rfl;have ho:OwnS M.A w w2 [obE b13 kd kk kc,obE b10 o ok oc,wkE b8 nilS nilS,wkE b7 mv v,obE b5 r rk rc,dcE b4 d vi tk tc,.mem N2]:=ho;unfold S_foliantref35_step_3;rw[wk_v ho 3 rfl];refine wk_put 2 hmet.one hrow.one ho rfl fun w3 ho=>?_;refine ret_wk2 2 ho rfl (hK _ _ N2 _ 6 ho rfl (hM.trans hle) ⟨mv,v,by rw[hR],?_⟩);rw[hR];refine⟨hmet.le hle,_,?_,Rws.snoc ⟨wayv,rfl,hway.le hle⟩ (hpv.le hle)⟩;rw[List.length_append,List.length_singleton,←Nat.zero_add s.pages.length];exact hrow
  have w1:=lfC_one ⟨r.n,o::ab⟩ hway.one;have pl:=hb.pages;have ho:=ho.drew;refine⟨fun W=>(wkE b7 mv pv).is W∧(obE b5 r rk rc).is W,⟨ho.at_ 3 rfl,ho.at_ 4 rfl⟩,?_⟩;refine hd_pure _ (fun _=>run_fa fo_wk1) (hd_do _ (fun W h=>run_wkpgs h.1) ?_);refine hd_pure _ (fun _=>run_fa fo_o1) (hd_do _ (fun W h=>run_obn64 h.2) ?_);refine hd_pure _ (fun _=>run_rl hway.one (o::ab)) ?_;constructor
  ·refine o_rls0 ho fun v0 w2 ho=>⟨⟨ho.at_ 4 rfl,ho.at_ 5 rfl⟩,?_⟩;constructor
   ·refine o_apRl 0 ho rfl (hpg.now (ho.hasM 7 rfl)) (RVs.one hpv) (by omega) fun v1 w3 ho=>⟨⟨ho.at_ 4 rfl,ho.at_ 5 rfl⟩,?_⟩;refine o_rls1 ⟨r.n,o::ab⟩ hway.one ho fun nb w4 ho=>⟨⟨ho.at_ 5 rfl,ho.at_ 6 rfl⟩,?_⟩;refine o_apRl 1 ho rfl (ho.sl 0 rfl 2 1 1 rfl) w1 (by omega) fun v2 w5 ho=>⟨⟨ho.at_ 5 rfl,ho.at_ 6 rfl⟩,?_⟩;exact fin ho.tail
   ·refine o_rls1 ⟨r.n,o::ab⟩ hway.one ho fun nb w4 ho=>⟨⟨ho.at_ 5 rfl,ho.at_ 6 rfl⟩,?_⟩;refine o_apRl 1 ho rfl (hpg.now (ho.hasM 8 rfl)) (RVs.one hpv) (by omega) fun v1 w3 ho=>⟨⟨ho.at_ 5 rfl,ho.at_ 6 rfl⟩,?_⟩;refine o_apRl 1 ho rfl (ho.sl 0 rfl 2 1 1 rfl) w1 (by omega) fun v2 w5 ho=>⟨⟨ho.at_ 5 rfl,ho.at_ 6 rfl⟩,?_⟩;exact fin ho.tail
  ·refine o_rls1 ⟨r.n,o::ab⟩ hway.one ho fun nb w4 ho=>⟨⟨ho.at_ 4 rfl,ho.at_ 5 rfl⟩,?_⟩;refine o_rls0 ho fun v0 w2 ho=>⟨⟨ho.at_ 5 rfl,ho.at_ 6 rfl⟩,?_⟩;refine o_apRl 0 ho rfl (hpg.now (ho.hasM 8 rfl)) (RVs.one hpv) (by omega) fun v1 w3 ho=>⟨⟨ho.at_ 5 rfl,ho.at_ 6 rfl⟩,?_⟩;refine o_apRl 0 ho rfl (ho.sl 1 rfl 2 1 1 rfl) w1 (by omega) fun v2 w5 ho=>⟨⟨ho.at_ 5 rfl,ho.at_ 6 rfl⟩,?_⟩;exact fin (ho.sub (.cons_cons _ (.cons _ (List.Sublist.refl _))))
|false=>
  rw[if_neg (by decide)] at hR;rw[i_f];obtain⟨kcs,hka⟩:=hkd.slices;refine loop (fun vs W=>∃(i:Nat) (z:Value) (N':Mem) (mv pv:Value) (s':Pw),vs=[z,.int .i64 i]∧i≤kd.kids.length∧N.le N'∧Pg.Bd s'∧WkAt N'.A N'.w mv pv s'∧R=Pg.foldE (fun k s=>Pg.node d g k (o::ab) s) (kd.kids.drop i) s' ∧
   OwnS M.A w W [obE b13 kd kk kc,obE b10 o ok oc,wkE b8 nilS nilS,wkE b7 mv pv,obE b5 r rk rc,dcE b4 d vi tk tc,.mem N']) (fun vs _=>kd.kids.length - n1 vs) ⟨0,z,N,mv,pv,s,rfl,by omega,N.le_refl,hb,hwk,hR,ho⟩ ?_
  clear ho hR hwk hb;rintro vs w2 ⟨i,z2,N',mv,pv,s',rfl,hi,hle,hb,hwk,hR,ho⟩ _;simp only[S_foliantref35_step_4,gd];rw[fa_o5,ob_kids ho 0 rfl,sl_len Tryz.underlying24 ((hka.kids.le hle).now (ho.hasM 6 rfl))];simp only[rs];have hkl:=kids_len (o:=kd);by_cases hlt:(i:Int) < (kd.kids.length:Int)
  ·have hi':i < kd.kids.length:=by omega
   simp only[hlt,decide_true,i_t];rw[Pg.foldE_drop hi'] at hR;obtain⟨xv,p,hx,q1,q2⟩:=chn_at (l:=kd.kids) (M:=N') ⟨kcs,hka.kids.le hle,hka.all.le hle⟩ hi';have hxw:=kid_wt hi';have hcall:=fun {W:World} (hW:N'.has W)=>IH kd.kids[i] s' xv wayv mv pv dcs N' W (by omega) hb hW (hda.le hle) hx (hway.le hle) hwk;have hb2:=Pg.node_bd (d:=d) g kd.kids[i] (o::ab) s' (by omega) hb;have fin:∀{W:World} {N2:Mem} {a c:Value} {N7:List Value→World→Prop} (b17:Nat),N'.le N2→WkAt N2.A N2.w a c (Pg.node d g kd.kids[i] (o::ab) s').1→OwnS M.A w W [wkE b17 a c,obE b13 kd kk kc,obE b10 o ok oc,wkE b8 nilS nilS,wkE b7 mv pv,obE b5 r rk rc,dcE b4 d vi tk tc,.mem N2] →
     (∀{W:World},R=Pg.foldE (fun k s=>Pg.node d g k (o::ab) s) (kd.kids.drop (i+1)) (Pg.node d g kd.kids[i] (o::ab) s').1→OwnS M.A w W [obE b13 kd kk kc,obE b10 o ok oc,wkE b8 nilS nilS,wkE b7 a c,obE b5 r rk rc,dcE b4 d vi tk tc,.mem N2]→N7 [z2,.int .i64 ((i:Int)+1)] W) →
     S_foliantref35_step_5 (.pointer (some ⟨b7,0,none⟩)) (.pointer (some ⟨b8,0,none⟩)) z2 (.int .i64 i) (.pointer (some ⟨b17,0,none⟩)) (.int .i64 (Pg.node d g kd.kids[i] (o::ab) s').2) W N7 K:=by
    intro W N2 a c N7 b17 hle2 hwk2 ho hN;unfold S_foliantref35_step_5;rw[n_err];by_cases he:(Pg.node d g kd.kids[i] (o::ab) s').2=0
    ·rw[if_neg (by simp[he])] at hR;simp only[he,ne_eq,not_true,decide_false,i_f];rw[wk_v ho 0 rfl];refine wk_put 4 hwk2.one1 hwk2.one2 ho rfl fun w3 ho=>?_;simp only[rs];rw[wrap64_id (by omega) (by omega)];exact hN hR ho.tail
    ·rw[if_pos he] at hR;simp only[he,ne_eq,not_false_eq_true,decide_true,i_t];rw[wk_v ho 0 rfl];refine wk_put 3 hwk2.one1 hwk2.one2 ho rfl fun w3 ho=>?_;exact ret_wk2 3 ho rfl (hK _ _ N2 _ 7 ho rfl (hM.trans (hle.trans hle2)) ⟨a,c,by rw[hR],by rw[hR];exact hwk2⟩)
   have ho:=ho.drew;refine⟨fun W=>(dcE b4 d vi tk tc).is W∧(obE b13 kd kk kc).is W∧(wkE b7 mv pv).is W∧N'.has W,⟨ho.at_ 5 rfl,ho.at_ 0 rfl,ho.at_ 3 rfl,ho.hasM 6 rfl⟩,?_⟩;refine hd_do _ (fun W h=>run_dcv h.1) (hd_pure _ (fun _=>run_fa fo_o5) (hd_do _ (fun W h=>run_obkids h.2.1) ?_));refine hd_pure _ q1 (hd_do _ (fun W h=>q2 W h.2.2.2) (hd_do _ (fun W h=>run_wkv h.2.2.1) ?_));constructor
   ·refine c_mem ho 6 rfl (hcall (ho.hasM 6 rfl)) ?_;rintro _ N2 w3 hle2 ⟨a,c,rfl,hwk2⟩ ho;refine⟨⟨ho.at_ 5 rfl,ho.at_ 0 rfl,ho.at_ 3 rfl,Mem.has_of hle2 (ho.hasM 6 rfl)⟩,hd_ext (hd_ext1 ?_)⟩;refine o_wka ho fun b17 w4 ho=>⟨⟨ho.at_ 6 rfl,ho.at_ 1 rfl,ho.at_ 4 rfl,Mem.has_of hle2 (ho.hasM 7 rfl)⟩,?_⟩;refine wk_put 0 hwk2.one1 hwk2.one2 ho rfl fun w5 ho=>?_;exact fin b17 hle2 hwk2 ho fun hR ho=>nextX ⟨i+1,z2,N2,a,c,_,by simp,by omega,hle.trans hle2,hb2,hwk2,hR,ho⟩ (by simp[n1,RowKit.intOf];omega)
   ·refine o_wka ho fun b17 w4 ho=>⟨⟨ho.at_ 6 rfl,ho.at_ 1 rfl,ho.at_ 4 rfl,ho.hasM 7 rfl⟩,?_⟩;refine c_mem ho 7 rfl (hcall (ho.hasM 7 rfl)) ?_;rintro _ N2 w3 hle2 ⟨a,c,rfl,hwk2⟩ ho;refine⟨⟨ho.at_ 6 rfl,ho.at_ 1 rfl,ho.at_ 4 rfl,Mem.has_of hle2 (ho.hasM 7 rfl)⟩,hd_ext (hd_ext1 ?_)⟩;refine wk_put 0 hwk2.one1 hwk2.one2 ho rfl fun w5 ho=>?_;exact fin b17 hle2 hwk2 ho fun hR ho=>nextX ⟨i+1,z2,N2,a,c,_,by simp,by omega,hle.trans hle2,hb2,hwk2,hR,ho⟩ (by simp[n1,RowKit.intOf];omega)
  ·simp only[hlt,decide_false,i_f];rw[List.drop_eq_nil_of_le (by omega),Pg.foldE] at hR;rw[wk_v ho 3 rfl];refine wk_put 2 hwk.one1 hwk.one2 ho rfl fun w3 ho=>?_;exact ret_wk2 2 ho rfl (hK _ _ N' _ 6 ho rfl (hM.trans hle) ⟨mv,pv,by rw[hR],by rw[hR];exact hwk⟩)
end
section
open Eng Go.RowKit
theorem int_at35 {M:Mem}{v:Value}{l:List Int}(hs:SlA M.A M.w v 1 l.length (intsW l)){i:Nat}(hi:i < l.length) :
  ∃p,∀W,M.has W→(mIA 124 v (.int .i64 (i:Int))).run prog W=.ok (.value (.pointer (some p))) W∧(mLoad 3 (.pointer (some p))).run prog W=.ok (.value (.int .i64 l[i])) W:=by
 obtain⟨b,off,cap,rfl,_⟩:=sl_open hs.1 (by omega);refine⟨⟨b,off+i,none⟩,fun W hk=>⟨?_,?_⟩⟩
 ·have:=run_ia (P:=prog) (T:=124) (b:=b) (off:=off) (cap:=cap) (n:=l.length) (k:=.i64) (i:=(i:Int)) (w:=W) Tryz.underlying124 (show _=some 1 by kernel_rfl) (by omega) (by omega);rw[Int.toNat_natCast,Nat.mul_one] at this;exact this
 ·obtain⟨b',off',cap',he,hc⟩:=sl_open (hs.now hk) (by omega);cases he;exact run_load_cell nInt5 (hc i _ (intsW_get hi))
theorem rstep_1 {d:Dc}{vi tk tc:Value}{dcs:List Value}{g:Nat}{ab:List Ob}{r o kd:Ob}{s:Pw}{b4 b5 b7 b8 b10 b13:Nat}{rk rc ok oc kk kc mv pv wayv z:Value}{M N:Mem}{w W:World}{K:Ending→World→Prop}(lf:Bool)(R:Pw×Int)
  (IH:StepOk d vi tk tc g (o::ab)) (hg:g≤23) (hM:M.le N) (hb:Pg.Bd s) (hbl:lf=true→s.pages.length < 2048) (hda:DocAt N.A N.w d vi tk tc dcs) (hkd:OV N.A N.w (obV kd kk kc) kd) (hov:OV N.A N.w (obV o ok oc) o) (hkw:kd.wt≤1000000000) (hway:Chn N.A N.w wayv ab.reverse) (hal:ab.length≤24) (hwk:WkAt N.A N.w mv pv s)
  (hR:R=if lf=true then (⟨s.met,s.pages++[⟨r.n,o::ab⟩]⟩,0) else Pg.foldE (fun k s=>Pg.node d g k (o::ab) s) kd.kids s)
  (ho:OwnS M.A w W [obE b13 kd kk kc,obE b10 o ok oc,wkE b8 nilS nilS,wkE b7 mv pv,obE b5 r rk rc,dcE b4 d vi tk tc,.mem N])
  (hK:∀(v:Value) (w':World) (N:Mem) (L:List Ent) (i:Nat),OwnS M.A w w' L→L[i]?=some (.mem N)→M.le N→(∃a' c',v=.tuple #[wkV a' c',.int .i64 R.2]∧WkAt N.A N.w a' c' R.1)→K (.returned v) w') :
  S_foliantref35_step_1 wayv (.pointer (some ⟨b4,0,none⟩)) (.pointer (some ⟨b5,0,none⟩)) (.pointer (some ⟨b7,0,none⟩)) (.pointer (some ⟨b8,0,none⟩)) z (.pointer (some ⟨b10,0,none⟩)) (.bool lf) (.pointer (some ⟨b13,0,none⟩)) W K:=by
 unfold S_foliantref35_step_1;obtain⟨cs,hsl,hall⟩:=hway;rw[List.length_reverse] at hsl;have fin:∀{W:World} {v:Value},OwnS M.A w W (.urow 26 6 v (0+ab.length+1) ([]++cs++obC o ok oc)::[obE b13 kd kk kc,obE b10 o ok oc,wkE b8 nilS nilS,wkE b7 mv pv,obE b5 r rk rc,dcE b4 d vi tk tc,.mem N]) →
   S_foliantref35_step_2 (.pointer (some ⟨b4,0,none⟩)) (.pointer (some ⟨b5,0,none⟩)) (.pointer (some ⟨b7,0,none⟩)) (.pointer (some ⟨b8,0,none⟩)) z (.bool lf) (.pointer (some ⟨b13,0,none⟩)) v W K:=by
  intro W v ho;obtain⟨N2,hle,hrow,ho⟩:=OwnS.freezeU (L:=[obE b13 kd kk kc,obE b10 o ok oc,wkE b8 nilS nilS,wkE b7 mv pv,obE b5 r rk rc,dcE b4 d vi tk tc,.mem N]) ho 6 rfl;refine rstep_2 lf R IH hg (hM.trans hle) hb hbl (hda.le hle) (hkd.le hle) hkw ⟨[]++cs++obC o ok oc,?_,?_⟩ (hwk.le hle) hR ho hK
  ·rw[List.length_reverse,List.length_cons,←Nat.zero_add ab.length];exact hrow
  ·rw[List.reverse_cons];exact ovs_app (hall.le hle) (ovs_1 (hov.le hle))
 have ho:=ho.drew;refine⟨fun W=>(obE b10 o ok oc).is W,ho.at_ 1 rfl,?_⟩;refine hd_do _ (fun W h=>run_obload h) ?_;have w1:=obC_one o hov.oneK hov.oneC;have w2:∀u∈cs,u.oneCell'=true:=ovs_one hall;constructor
 ·refine o_obs0 ho fun v0 w2_ ho=>⟨ho.at_ 2 rfl,?_⟩;constructor
  ·refine o_apOb 0 ho rfl (hsl.now (ho.hasM 7 rfl)) w2 (by omega) fun v1 w3 ho=>⟨ho.at_ 2 rfl,?_⟩;refine o_obs1 o hov.oneK hov.oneC ho fun nb w4 ho=>⟨ho.at_ 3 rfl,?_⟩;refine o_apOb 1 ho rfl (ho.sl 0 rfl 6 1 1 rfl) w1 (by omega) fun v2 w5 ho=>⟨ho.at_ 3 rfl,?_⟩;exact fin ho.tail
  ·refine o_obs1 o hov.oneK hov.oneC ho fun nb w4 ho=>⟨ho.at_ 3 rfl,?_⟩;refine o_apOb 1 ho rfl (hsl.now (ho.hasM 8 rfl)) w2 (by omega) fun v1 w3 ho=>⟨ho.at_ 3 rfl,?_⟩;refine o_apOb 1 ho rfl (ho.sl 0 rfl 6 1 1 rfl) w1 (by omega) fun v2 w5 ho=>⟨ho.at_ 3 rfl,?_⟩;exact fin ho.tail
 ·refine o_obs1 o hov.oneK hov.oneC ho fun nb w4 ho=>⟨ho.at_ 2 rfl,?_⟩;refine o_obs0 ho fun v0 w2_ ho=>⟨ho.at_ 3 rfl,?_⟩;refine o_apOb 0 ho rfl (hsl.now (ho.hasM 8 rfl)) w2 (by omega) fun v1 w3 ho=>⟨ho.at_ 3 rfl,?_⟩;refine o_apOb 0 ho rfl (ho.sl 1 rfl 6 1 1 rfl) w1 (by omega) fun v2 w5 ho=>⟨ho.at_ 3 rfl,?_⟩;exact fin (ho.sub (.cons_cons _ (.cons _ (List.Sublist.refl _))))
theorem rstep_0 {d:Dc}{vi tk tc:Value}{dcs:List Value}{f:Nat}{ab:List Ob}{r kd:Ob}{s:Pw}{b4 b5 b7 b8 b10 b13:Nat}{rk rc ok oc kk kc mv pv wayv:Value}{M N:Mem}{w W:World}{K:Ending→World→Prop}
  (IH:∀g,f=g+1→StepOk d vi tk tc g (Dk.follow d r::ab)) (hf:ab.length+f=24) (hM:M.le N) (hb:Pg.Bd s) (hbad:Pg.badN d r=false) (hkd0:kd=Pg.val d (Dk.follow d r) Pg.kidsK) (hda:DocAt N.A N.w d vi tk tc dcs) (hkd:OV N.A N.w (obV kd kk kc) kd) (hov:OV N.A N.w (obV (Dk.follow d r) ok oc) (Dk.follow d r)) (hkw:kd.wt≤1000000000) (hway:Chn N.A N.w wayv ab.reverse) (hwk:WkAt N.A N.w mv pv s)
  (ho:OwnS M.A w W [obE b13 kd kk kc,obE b10 (Dk.follow d r) ok oc,wkE b8 nilS nilS,wkE b7 mv pv,obE b5 r rk rc,dcE b4 d vi tk tc,.mem N])
  (hK:∀(v:Value) (w':World) (N:Mem) (L:List Ent) (i:Nat),OwnS M.A w w' L→L[i]?=some (.mem N)→M.le N→(∃a' c',v=.tuple #[wkV a' c',.int .i64 (Pg.node d f r ab s).2]∧WkAt N.A N.w a' c' (Pg.node d f r ab s).1)→K (.returned v) w') :
  LoopX [(.int .i64 0),(.int .i64 0)] W (fun vs2 w N2=>∀_:Sg,S_foliantref35_step_0 wayv (.pointer (some ⟨b4,0,none⟩)) (.pointer (some ⟨b5,0,none⟩)) (.pointer (some ⟨b7,0,none⟩)) (.pointer (some ⟨b8,0,none⟩)) (vs2.getD 0 undef) (.pointer (some ⟨b10,0,none⟩)) (.bool (Pg.leafB d (Dk.follow d r))) (.pointer (some ⟨b13,0,none⟩)) (vs2.getD 1 undef) w N2 K):=by
 have hml:=hb.met;have hpl:=hb.pages;have bad:∀{W:World} {e:Int},Pg.errN d f r s=e→e≠0→OwnS M.A w W [obE b13 kd kk kc,obE b10 (Dk.follow d r) ok oc,wkE b8 nilS nilS,wkE b7 mv pv,obE b5 r rk rc,dcE b4 d vi tk tc,.mem N] →
   DoX prog (mLoad 126 (.pointer (some ⟨b7,0,none⟩))) W (Eng.pk K) fun t W=>DoX prog (mStore 126 (.pointer (some ⟨b8,0,none⟩)) t) W (Eng.pk K) fun _ W=>RetX prog [.cell (.pointer (some ⟨b8,0,none⟩)) 126,.val (.int .i64 e)] W K:=by
  intro W e he h0 ho;have hn:=Pg.node_err (ab:=ab) hb (by rw[he];exact h0) (by omega:f≤24);rw[wk_v ho 3 rfl];refine wk_put 2 hwk.one1 hwk.one2 ho rfl fun w3 ho=>?_;exact ret_wk2 2 ho rfl (hK _ _ N _ 6 ho rfl hM ⟨mv,pv,by rw[hn,he],by rw[hn];exact hwk⟩)
 refine loop (fun vs W=>∃(i:Nat) (z:Value),vs=[z,.int .i64 i]∧i≤s.met.length∧(∀j (h:j < s.met.length),j < i→s.met[j]≠r.n) ∧
  OwnS M.A w W [obE b13 kd kk kc,obE b10 (Dk.follow d r) ok oc,wkE b8 nilS nilS,wkE b7 mv pv,obE b5 r rk rc,dcE b4 d vi tk tc,.mem N]) (fun vs _=>s.met.length - n1 vs) ⟨0,_,rfl,by omega,fun j _ h=>by omega,ho⟩ ?_
 clear ho;rintro vs w2 ⟨i,z,rfl,hi,hne,ho⟩ _;simp only[S_foliantref35_step_0,gd];rw[fa_wk0,wk_met ho 3 rfl,sl_len Tryz.underlying124 (hwk.met.now (ho.hasM 6 rfl))];simp only[rs];by_cases hlt:(i:Int) < (s.met.length:Int)
 ·have hi':i < s.met.length:=by omega
  simp only[hlt,decide_true,i_t];obtain⟨p,hp⟩:=int_at35 hwk.met hi';refine quietC (fun W=>OwnS M.A w W [obE b13 kd kk kc,obE b10 (Dk.follow d r) ok oc,wkE b8 nilS nilS,wkE b7 mv pv,obE b5 r rk rc,dcE b4 d vi tk tc,.mem N]) ho.drew ?_;refine q_do _ (fun _=>run_fa fo_wk0) (q_at _ (fun W h=>run_wkmet (h.at_ 3 rfl)) (q_at _ (fun W h=>(hp W (h.hasM 6 rfl)).1) (q_at _ (fun W h=>(hp W (h.hasM 6 rfl)).2) ?_)));refine q_do _ (fun _=>run_fa fo_o1) (q_at _ (fun W h=>run_obn64 (h.at_ 4 rfl)) (q_eq ?_));intro w3 ho;by_cases he:s.met[i]=r.n
  ·simp only[he,decide_true,i_t];refine bad (e:=11) ?_ (by decide) ho;unfold Pg.errN;rw[if_neg (by rw[hbad];decide),if_pos (by rw[←he];exact List.getElem_mem hi')]
  ·simp only[he,decide_false,i_f]
   try simp only[rs]
   rw[wrap64_id (by omega) (by omega)];refine nextX ⟨i+1,z,rfl,by omega,fun j hj hji=>?_,ho⟩ (by simp[n1,RowKit.intOf];omega);by_cases hji2:j=i
   ·subst hji2;exact he
   ·exact hne j hj (by omega)
 ·simp only[hlt,decide_false,i_f];have hnm:r.n ∉ s.met:=fun hm=>by
   obtain⟨j,hj,he⟩:=List.getElem_of_mem hm;exact hne j hj (by omega) he
  rw[hway.len (ho.hasM 6 rfl),List.length_reverse];simp only[rs];rw[wrap64_id (by omega) (by omega)];have hN:Pg.errN d f r s=if 24 < (25 - (f:Int)) then 7 else if s.met.length=4096∨(Pg.leafB d (Dk.follow d r)=true∧s.pages.length=2048) then 6 else 0:=by
   unfold Pg.errN;rw[if_neg (by rw[hbad];decide),if_neg hnm]
  by_cases h7:(24:Int) < (ab.length:Int)+1
  ·simp only[h7,decide_true,i_t];exact bad (e:=7) (by rw[hN,if_pos (by omega)]) (by decide) ho
  rw[if_neg (by omega)] at hN;simp only[h7,decide_false,i_f];rw[fa_wk0,wk_met ho 3 rfl,sl_len Tryz.underlying124 (hwk.met.now (ho.hasM 6 rfl))];simp only[rs];by_cases h4:(4096:Int)≤(s.met.length:Int)
  ·simp only[h4,decide_true,rs,g_un];exact bad (e:=6) (by rw[hN,if_pos (.inl (by omega))]) (by decide) ho
  simp only[h4,decide_false,rs]
  -- the object is taken up
  have take:∀{W:World},OwnS M.A w W [obE b13 kd kk kc,obE b10 (Dk.follow d r) ok oc,wkE b8 nilS nilS,wkE b7 mv pv,obE b5 r rk rc,dcE b4 d vi tk tc,.mem N]→(Pg.leafB d (Dk.follow d r)=true→s.pages.length < 2048) →
    HeldX W (fun S4 w=>
 HDo prog (fun _=>True) (mFA 126 (.pointer (some ⟨b7,0,none⟩)) 0) fun t92=>
 HDo prog S4 (mLoad 124 t92) fun t93=>
 HDo prog (fun _=>True) (mFA 26 (.pointer (some ⟨b5,0,none⟩)) 1) fun t95=>
 HDo prog S4 (mLoad 2 t95) fun t96=>
 (DoX prog (mBuildS 124 0 #[]) w (pm1 (pm1 (pm1 (pm1 (pm1 (Eng.pk K)))))) fun t91 w=>
 S4 w∧((DoX prog (mB .append #[124,124] 124 #[false,false] #[t91,t93]) w (pm1 (pm1 (pm1 (pm1 (pm1 (Eng.pk K)))))) fun t94 w=>
 S4 w∧(DoX prog (mBuildS 124 1 #[(0,t96)]) w (pm1 (pm1 (pm1 (pm1 (pm1 (Eng.pk K)))))) fun t97 w=>
 S4 w∧(DoX prog (mB .append #[124,124] 124 #[false,false] #[t94,t97]) w (pm1 (pm1 (pm1 (pm1 (pm1 (Eng.pk K)))))) fun t98 w=>
 S4 w∧(HDo prog (fun _=>True) (mFA 126 (.pointer (some ⟨b7,0,none⟩)) 0) fun t99=>
 DoX prog (mStore 124 t99 t98) w (pm1 (pm1 (pm1 (pm1 (pm1 (Eng.pk K)))))) fun _ w=>
 (S_foliantref35_step_1 wayv (.pointer (some ⟨b4,0,none⟩)) (.pointer (some ⟨b5,0,none⟩)) (.pointer (some ⟨b7,0,none⟩)) (.pointer (some ⟨b8,0,none⟩)) z (.pointer (some ⟨b10,0,none⟩)) (.bool (Pg.leafB d (Dk.follow d r))) (.pointer (some ⟨b13,0,none⟩)) w K)))))∧(DoX prog (mBuildS 124 1 #[(0,t96)]) w (pm1 (pm1 (pm1 (pm1 (pm1 (Eng.pk K)))))) fun t97_1 w=>
 S4 w∧(DoX prog (mB .append #[124,124] 124 #[false,false] #[t91,t93]) w (pm1 (pm1 (pm1 (pm1 (pm1 (Eng.pk K)))))) fun t94_1 w=>
 S4 w∧(DoX prog (mB .append #[124,124] 124 #[false,false] #[t94_1,t97_1]) w (pm1 (pm1 (pm1 (pm1 (pm1 (Eng.pk K)))))) fun t98_1 w=>
 S4 w∧(HDo prog (fun _=>True) (mFA 126 (.pointer (some ⟨b7,0,none⟩)) 0) fun t99_1=>
 DoX prog (mStore 124 t99_1 t98_1) w (pm1 (pm1 (pm1 (pm1 (pm1 (Eng.pk K)))))) fun _ w=>
 (S_foliantref35_step_1 wayv (.pointer (some ⟨b4,0,none⟩)) (.pointer (some ⟨b5,0,none⟩)) (.pointer (some ⟨b7,0,none⟩)) (.pointer (some ⟨b8,0,none⟩)) z (.pointer (some ⟨b10,0,none⟩)) (.bool (Pg.leafB d (Dk.follow d r))) (.pointer (some ⟨b13,0,none⟩)) w K)))))))∧(DoX prog (mBuildS 124 1 #[(0,t96)]) w (pm1 (pm1 (pm1 (pm1 (pm1 (Eng.pk K)))))) fun t97_2 w=>
 S4 w∧(DoX prog (mBuildS 124 0 #[]) w (pm1 (pm1 (pm1 (pm1 (pm1 (Eng.pk K)))))) fun t91_1 w=>
 S4 w∧(DoX prog (mB .append #[124,124] 124 #[false,false] #[t91_1,t93]) w (pm1 (pm1 (pm1 (pm1 (pm1 (Eng.pk K)))))) fun t94_2 w=>
 S4 w∧(DoX prog (mB .append #[124,124] 124 #[false,false] #[t94_2,t97_2]) w (pm1 (pm1 (pm1 (pm1 (pm1 (Eng.pk K)))))) fun t98_2 w=>
 S4 w∧(HDo prog (fun _=>True) (mFA 126 (.pointer (some ⟨b7,0,none⟩)) 0) fun t99_2=>
 DoX prog (mStore 124 t99_2 t98_2) w (pm1 (pm1 (pm1 (pm1 (pm1 (Eng.pk K)))))) fun _ w=>
 (S_foliantref35_step_1 wayv (.pointer (some ⟨b4,0,none⟩)) (.pointer (some ⟨b5,0,none⟩)) (.pointer (some ⟨b7,0,none⟩)) (.pointer (some ⟨b8,0,none⟩)) z (.pointer (some ⟨b10,0,none⟩)) (.bool (Pg.leafB d (Dk.follow d r))) (.pointer (some ⟨b13,0,none⟩)) w K))))))):=by
   intro W ho hlp;have h0:Pg.errN d f r s=0:=by
    rw[hN,if_neg];rintro (h|⟨h,h'⟩)
    ·omega
    ·have:=hlp h;omega
   obtain⟨-,-,-,-,g,hg,hn⟩:=Pg.node_go (ab:=ab) hb h0;obtain⟨hmet,cs,hpg,hpv⟩:=hwk;have fin:∀{W:World} {v:Value} {PK:PKT},OwnS M.A w W (.urow 3 1 v (0+s.met.length+1) ([]++intsW s.met++intsW [r.n])::[obE b13 kd kk kc,obE b10 (Dk.follow d r) ok oc,wkE b8 nilS nilS,wkE b7 mv pv,obE b5 r rk rc,dcE b4 d vi tk tc,.mem N]) →
     HDo prog (fun _=>True) (mFA 126 (.pointer (some ⟨b7,0,none⟩)) 0) fun t99=>DoX prog (mStore 124 t99 v) W PK fun _ w=>
     S_foliantref35_step_1 wayv (.pointer (some ⟨b4,0,none⟩)) (.pointer (some ⟨b5,0,none⟩)) (.pointer (some ⟨b7,0,none⟩)) (.pointer (some ⟨b8,0,none⟩)) z (.pointer (some ⟨b10,0,none⟩)) (.bool (Pg.leafB d (Dk.follow d r))) (.pointer (some ⟨b13,0,none⟩)) w K:=by
    intro W v PK ho;refine hd_pure _ (fun _=>run_fa fo_wk0) ?_;refine wk_put0 4 (urow_one (ho.at_ 0 rfl)) ho rfl fun w2 ho=>?_;obtain⟨N2,hle,hrow,ho⟩:=OwnS.freezeU (L:=[obE b13 kd kk kc,obE b10 (Dk.follow d r) ok oc,wkE b8 nilS nilS,wkE b7 v pv,obE b5 r rk rc,dcE b4 d vi tk tc,.mem N]) ho 6 rfl;refine rstep_1 (Pg.leafB d (Dk.follow d r)) (Pg.node d f r ab s) (s:=⟨s.met++[r.n],s.pages⟩) (IH g hg) (by omega) (hM.trans hle) ⟨by simp;omega,hpl⟩ hlp (hda.le hle) (hkd.le hle) (hov.le hle) hkw (hway.le hle) (by omega) ⟨?_,cs,hpg.le hle,hpv.le hle⟩ (by rw[hn,hkd0]) ho hK;have e:intsW (s.met++[r.n])=[]++intsW s.met++intsW [r.n]:=by simp[intsW]
    show SlA N2.A N2.w v 1 (s.met++[r.n]).length (intsW (s.met++[r.n]));rw[e,List.length_append,List.length_singleton,←Nat.zero_add s.met.length];exact hrow
   have ho:=ho.drew;refine⟨fun W=>(wkE b7 mv pv).is W∧(obE b5 r rk rc).is W,⟨ho.at_ 3 rfl,ho.at_ 4 rfl⟩,?_⟩;refine hd_pure _ (fun _=>run_fa fo_wk0) (hd_do _ (fun W h=>run_wkmet h.1) ?_);refine hd_pure _ (fun _=>run_fa fo_o1) (hd_do _ (fun W h=>run_obn64 h.2) ?_);constructor
   ·refine o_ints0 ho fun v0 w2 ho=>⟨⟨ho.at_ 4 rfl,ho.at_ 5 rfl⟩,?_⟩;constructor
    ·refine o_apInt 0 ho rfl (hmet.now (ho.hasM 7 rfl)) intsW_one (by omega) fun v1 w3 ho=>⟨⟨ho.at_ 4 rfl,ho.at_ 5 rfl⟩,?_⟩;refine o_ints1 r.n ho fun nb w4 ho=>⟨⟨ho.at_ 5 rfl,ho.at_ 6 rfl⟩,?_⟩;refine o_apInt 1 ho rfl (ho.sl 0 rfl 1 1 1 rfl) intsW_one (by omega) fun v2 w5 ho=>⟨⟨ho.at_ 5 rfl,ho.at_ 6 rfl⟩,?_⟩;exact fin ho.tail
    ·refine o_ints1 r.n ho fun nb w4 ho=>⟨⟨ho.at_ 5 rfl,ho.at_ 6 rfl⟩,?_⟩;refine o_apInt 1 ho rfl (hmet.now (ho.hasM 8 rfl)) intsW_one (by omega) fun v1 w3 ho=>⟨⟨ho.at_ 5 rfl,ho.at_ 6 rfl⟩,?_⟩;refine o_apInt 1 ho rfl (ho.sl 0 rfl 1 1 1 rfl) intsW_one (by omega) fun v2 w5 ho=>⟨⟨ho.at_ 5 rfl,ho.at_ 6 rfl⟩,?_⟩;exact fin ho.tail
   ·refine o_ints1 r.n ho fun nb w4 ho=>⟨⟨ho.at_ 4 rfl,ho.at_ 5 rfl⟩,?_⟩;refine o_ints0 ho fun v0 w2 ho=>⟨⟨ho.at_ 5 rfl,ho.at_ 6 rfl⟩,?_⟩;refine o_apInt 0 ho rfl (hmet.now (ho.hasM 8 rfl)) intsW_one (by omega) fun v1 w3 ho=>⟨⟨ho.at_ 5 rfl,ho.at_ 6 rfl⟩,?_⟩;refine o_apInt 0 ho rfl (ho.sl 1 rfl 1 1 1 rfl) intsW_one (by omega) fun v2 w5 ho=>⟨⟨ho.at_ 5 rfl,ho.at_ 6 rfl⟩,?_⟩;exact fin (ho.sub (.cons_cons _ (.cons _ (List.Sublist.refl _))))
  cases hlf:Pg.leafB d (Dk.follow d r) with
 |false=>
   rw[hlf] at take;simp only[rs,g_un];exact take ho (fun h=>by cases h)
 |true=>
   rw[hlf] at take;simp only[rs];obtain⟨hmet,cs,hpg,hpv⟩:=id hwk;rw[fa_wk1,wk_pgs ho 3 rfl,sl_len Tryz.underlying78 (hpg.now (ho.hasM 6 rfl))];simp only[rs];by_cases h2:(2048:Int)≤(s.pages.length:Int)
   ·simp only[h2,decide_true,rs];exact bad (e:=6) (by rw[hN,if_pos (.inr ⟨hlf,by omega⟩)]) (by decide) ho
   ·simp only[h2,decide_false,rs];exact take ho (fun _=>by omega)
end
section
open Eng Go.RowKit
theorem step_ok (d:Dc)(vi tk tc:Value)(hd:Dk.Ok d):∀(f:Nat) (ab:List Ob),ab.length+f=24→StepOk d vi tk tc f ab:=by
 intro f
 induction f with
|zero=>exact fun ab hf=>stp 0 ab hf (fun g h=>by cases h)
|succ f ih=>exact fun ab hf=>stp (f+1) ab hf (fun g h o=>by cases h;exact ih (o::ab) (by rw[List.length_cons];omega))
 where
 stp (f:Nat) (ab:List Ob) (hf:ab.length+f=24) (IH:∀g,f=g+1→∀o,StepOk d vi tk tc g (o::ab)):StepOk d vi tk tc f ab:=by
  intro r s rv wayv a c dcs M w hrw hb hM hda hrv hway hwk;obtain⟨rk,rc,rcs,rfl,hra⟩:=hrv.open;refine retM_of hM fun K hK=>S_foliantref35_step_ok ?_;unfold S_foliantref35_step;refine o_dcb d hda.items.one hda.trailer.oneK hda.trailer.oneC (OwnS.memS hM) fun b4 w1 ho=>?_;refine o_obb r hra.keys.one hra.kids.one ho fun b5 w2 ho=>?_;refine o_wkb hwk.one1 hwk.one2 ho fun b7 w3 ho=>?_;refine o_wka ho fun b8 w4 ho=>?_;rw[dc_v ho 3 rfl,ob_v ho 2 rfl];refine c_mem ho 4 rfl (rfollow_ret d r _ _ M w4 hd (ho.hasM 4 rfl) hda.dv hra.ov) fun y N w5 hle hy ho=>?_;have how:=Dk.follow_wt hd hrw;obtain⟨ok,oc,ocs,rfl,hoa⟩:=hy.open;refine o_oba ho fun b10 w6 ho=>?_;refine ob_put 0 hoa.keys.one hoa.kids.one ho rfl fun w7 ho=>?_;have ho:OwnS M.A w w7 [obE b10 (Dk.follow d r) ok oc,wkE b8 nilS nilS,wkE b7 a c,obE b5 r rk rc,dcE b4 d vi tk tc,.mem N]:=ho;have hda:=hda.le hle;refine quietC (fun W=>OwnS M.A w W [obE b10 (Dk.follow d r) ok oc,wkE b8 nilS nilS,wkE b7 a c,obE b5 r rk rc,dcE b4 d vi tk tc,.mem N]) ho.drew ?_;refine q_at _ (fun W h=>run_dcv (h.at_ 4 rfl)) (q_at _ (fun W h=>run_obload (h.at_ 0 rfl)) ?_);refine q_call (.bool (Pg.leafB d (Dk.follow d r))) (fun W h=>(RetM.told (rnamed35_ret d (Dk.follow d r) _ _ Dk.typeK Pg.pageN N W hd how (h.hasM 5 rfl) hda.dv hoa.ov)).mono fun v w' r=>⟨r.1,h.grow r.2⟩) ?_;refine q_at _ (fun W h=>run_dcv (h.at_ 4 rfl)) (q_at _ (fun W h=>run_obload (h.at_ 0 rfl)) ?_);refine q_call (.bool (Pg.nodeB d (Dk.follow d r))) (fun W h=>(RetM.told (rnamed35_ret d (Dk.follow d r) _ _ Dk.typeK Pg.pagesN N W hd how (h.hasM 5 rfl) hda.dv hoa.ov)).mono fun v w' r=>⟨r.1,h.grow r.2⟩) ?_;intro w8 ho;rw[dc_v ho 4 rfl,ob_v ho 0 rfl];refine c_mem ho 5 rfl (rat_ret d (Dk.follow d r) _ _ Pg.kidsK N w8 hd how (ho.hasM 5 rfl) hda.dv hoa.ov) fun y N2 w9 hle2 hy2 ho=>?_;have hkw:=Pg.val_wt hd Pg.kidsK how;obtain⟨kk,kc,kcs,rfl,hka⟩:=hy2.open;refine o_oba ho fun b13 w10 ho=>?_;refine ob_put 0 hka.keys.one hka.kids.one ho rfl fun w11 ho=>?_;have ho:OwnS M.A w w11 [obE b13 (Pg.val d (Dk.follow d r) Pg.kidsK) kk kc,obE b10 (Dk.follow d r) ok oc,wkE b8 nilS nilS,wkE b7 a c,obE b5 r rk rc,dcE b4 d vi tk tc,.mem N2]:=ho;have h2:=hle.trans hle2;have bad:Pg.badN d r=true→DoX prog (mLoad 126 (.pointer (some ⟨b7,0,none⟩))) w11 (Eng.pk K) fun t W=>DoX prog (mStore 126 (.pointer (some ⟨b8,0,none⟩)) t) W (Eng.pk K) fun _ W=>RetX prog [.cell (.pointer (some ⟨b8,0,none⟩)) 126,.val (.int .i64 24)] W K:=by
   intro hbad;have he:Pg.errN d f r s=24:=by unfold Pg.errN;rw[if_pos hbad]
   have hn:=Pg.node_err (ab:=ab) hb (by rw[he];decide) (by omega:f≤24);rw[wk_v ho 3 rfl];refine wk_put 2 hwk.one1 hwk.one2 ho rfl fun w3 ho=>?_;exact ret_wk2 2 ho rfl (hK _ _ N2 _ 6 ho rfl h2 ⟨a,c,by rw[hn,he],by rw[hn];exact hwk.le h2⟩)
  have go:=fun (hbad:Pg.badN d r=false)=>rstep_0 (fun g hg=>IH g hg (Dk.follow d r)) hf h2 hb hbad rfl (hda.le hle2) hka.ov (hoa.ov.le hle2) hkw (hway.le h2) (hwk.le h2) ho hK;unfold Pg.badN at bad go;simp only[rs,fa_o0,ob_k ho 4 rfl];by_cases h8:r.k=8
  case neg=>
   simp only[h8,ne_eq,not_false_eq_true,decide_true,rs,g_un];exact bad (by simp[h8])
  simp only[h8,ne_eq,not_true,decide_false,rs,fa_o0,ob_k ho 1 rfl];by_cases h7:(Dk.follow d r).k=7
  case neg=>
   simp only[h7,ne_eq,not_false_eq_true,decide_true,rs,g_un];exact bad (by simp[h8,h7])
  simp only[h7,ne_eq,not_true,decide_false,rs];cases hn:Pg.nodeB d (Dk.follow d r) with
 |false=>
   cases hl:Pg.leafB d (Dk.follow d r) with
  |false=>
    simp only[rs,Bool.not_false,Bool.not_true,g_un];exact bad (by simp[hl,hn])
  |true=>
    rw[hl] at go;simp only[rs,Bool.not_false,Bool.not_true,g_un];exact go (by simp[h8,h7,hn])
 |true=>
   have hl:Pg.leafB d (Dk.follow d r)=false:=by
    cases hl:Pg.leafB d (Dk.follow d r) with
   |false=>rfl
   |true=>exact (Pg.apart hl hn).elim
   rw[hl] at go ⊢;simp only[rs,Bool.not_false,Bool.not_true,g_un,fa_o0,ob_k ho 0 rfl];by_cases h6:(Pg.val d (Dk.follow d r) Pg.kidsK).k=6
   ·simp only[h6,ne_eq,not_true,decide_false,rs,g_un];exact go (by simp[h8,h7,hn,h6])
   ·simp only[h6,ne_eq,not_false_eq_true,decide_true,rs,g_un];exact bad (by simp[hn,h6])
end
section
open Eng Go.RowKit
theorem run_wk0 {W:World}:(mBuild 126 #[]).run prog W=.ok (.value (wkV nilS nilS)) W:=by kernel_rfl
theorem rleaves35_ret (d:Dc)(dv:Value)(M:Mem)(w:World)(hd:Dk.Ok d)(hM:M.has w)(hdv:DV M.A M.w dv d) :
  RetM prog 37 #[dv] M w (fun r N=>∃v cs,r=errV v (Pg.leaves d).2∧SlA N.A N.w v 2 (Pg.leaves d).1.length cs∧RVs N.A N.w cs (Pg.leaves d).1):=by
 obtain⟨vi,tk,tc,dcs,rfl,hda⟩:=hdv;refine retM_of hM fun K hK=>S_foliantref35_Leaves_ok ?_;unfold S_foliantref35_Leaves;refine o_dcb d hda.items.one hda.trailer.oneK hda.trailer.oneC (OwnS.memS hM) fun b1 w1 ho=>?_;rw[dc_v ho 0 rfl];refine c_below ho (R:=fun v=>v=.int .i64 (Dk.check d)) (RetM.told (rcheck_ret d _ M w1 hd (ho.hasM 1 rfl) hda.dv)) ?_;rintro _ w2 rfl ho;rw[n_err];have no:∀{W:World} {N:Mem} {L:List Ent} {e:Int} (i:Nat),OwnS M.A w W L→L[i]?=some (.mem N)→M.le N→Pg.leaves d=([],e)→K (.returned (.tuple #[.slice none 0 0,.int .i64 e])) W:=fun i ho hi hle he=>
  hK _ _ _ _ i ho hi hle ⟨nilS,[],by rw[he];rfl,by rw[he];exact SlA.nil _ _ _ _,by rw[he];exact .nil⟩
 by_cases hc:Dk.check d=0
 case neg=>
  simp only[hc,ne_eq,not_false_eq_true,decide_true,i_t];exact no 1 ho rfl M.le_refl (by unfold Pg.leaves;rw[if_pos hc])
 have hl:Pg.leaves d=if (Pg.node d 24 (Pg.first d) [] ⟨[],[]⟩).2≠0 then ([],(Pg.node d 24 (Pg.first d) [] ⟨[],[]⟩).2) else ((Pg.node d 24 (Pg.first d) [] ⟨[],[]⟩).1.pages,0):=by
  unfold Pg.leaves;rw[if_neg (show ¬Dk.check d≠0 by simp[hc])]
 simp only[hc,ne_eq,not_true,decide_false,i_f];have h7:d.trailer.k=7:=by
  obtain⟨-,h2⟩:=Dk.check_parts.1 hc;obtain⟨-,t2,-⟩:=Dk.trail_parts.1 h2;exact t2
 have hst:=step_ok d vi tk tc hd 24 [] rfl;have fin:∀{W:World} {N:Mem} {a c:Value} {L:List Ent} (b5:Nat),M.le N→WkAt N.A N.w a c (Pg.node d 24 (Pg.first d) [] ⟨[],[]⟩).1→OwnS M.A w W [wkE b5 a c,dcE b1 d vi tk tc,.mem N] →
   S_foliantref35_Leaves_0 (.pointer (some ⟨b5,0,none⟩)) (.int .i64 (Pg.node d 24 (Pg.first d) [] ⟨[],[]⟩).2) W K:=by
  intro W N a c L b5 hle hwk ho;unfold S_foliantref35_Leaves_0;generalize Pg.node d 24 (Pg.first d) [] ⟨[],[]⟩=nd at *;rw[n_err];by_cases he:nd.2=0
  ·rw[if_neg (by simp[he])] at hl;simp only[he,ne_eq,not_true,decide_false,i_f];rw[fa_wk1,wk_pgs ho 0 rfl];obtain⟨-,cs,hpg,hpv⟩:=hwk;exact hK _ _ N _ 2 ho rfl hle ⟨c,cs,by rw[hl];rfl,by rw[hl];exact hpg,by rw[hl];exact hpv⟩
  ·rw[if_pos he] at hl;simp only[he,ne_eq,not_false_eq_true,decide_true,i_t];exact no 2 ho rfl hle hl
 have fst_:=fun {N:Mem} {W:World} (hle:M.le N) (hN:N.has W)=>rfirst35_ret d _ N W hd h7 hN (hda.le hle).dv;have stp:=fun {N:Mem} {W:World} {y:Value} (hle:M.le N) (hN:N.has W) (hy:OV N.A N.w y (Pg.first d))=>hst (Pg.first d) ⟨[],[]⟩ y nilS nilS nilS dcs N W (Pg.first_wt hd) ⟨by simp,by simp⟩ hN (hda.le hle) hy (Chn.nil _ _) ⟨SlA.nil _ _ _ _,[],SlA.nil _ _ _ _,.nil⟩;have ho:=ho.drew;refine⟨fun W=>(dcE b1 d vi tk tc).is W,ho.at_ 0 rfl,?_⟩;refine hd_do _ (fun W h=>run_dcv h) (hd_do _ (fun W h=>run_dcv h) (hd_pure _ (fun _=>run_wk0) ?_));constructor
 ·refine c_mem ho 1 rfl (fst_ M.le_refl (ho.hasM 1 rfl)) fun y N w3 hle hy ho=>⟨ho.at_ 0 rfl,?_⟩;constructor
  ·refine c_mem ho 1 rfl (stp hle (ho.hasM 1 rfl) hy) ?_;rintro _ N2 w4 hle2 ⟨a,c,rfl,hwk⟩ ho;refine⟨ho.at_ 0 rfl,hd_ext (hd_ext1 ?_)⟩;refine o_wka ho fun b5 w5 ho=>⟨ho.at_ 1 rfl,?_⟩;refine wk_put 0 hwk.one1 hwk.one2 ho rfl fun w6 ho=>?_;exact fin (L:=[]) b5 (hle.trans hle2) hwk ho
  ·refine o_wka ho fun b5 w5 ho=>⟨ho.at_ 1 rfl,?_⟩;refine c_mem ho 2 rfl (stp hle (ho.hasM 2 rfl) hy) ?_;rintro _ N2 w4 hle2 ⟨a,c,rfl,hwk⟩ ho;refine⟨ho.at_ 1 rfl,hd_ext (hd_ext1 ?_)⟩;refine wk_put 0 hwk.one1 hwk.one2 ho rfl fun w6 ho=>?_;exact fin (L:=[]) b5 (hle.trans hle2) hwk ho
 ·refine o_wka ho fun b5 w5 ho=>⟨ho.at_ 1 rfl,?_⟩;refine c_mem ho 2 rfl (fst_ M.le_refl (ho.hasM 2 rfl)) fun y N w3 hle hy ho=>⟨ho.at_ 1 rfl,?_⟩;refine c_mem ho 2 rfl (stp hle (ho.hasM 2 rfl) hy) ?_;rintro _ N2 w4 hle2 ⟨a,c,rfl,hwk⟩ ho;refine⟨ho.at_ 1 rfl,hd_ext (hd_ext1 ?_)⟩;refine wk_put 0 hwk.one1 hwk.one2 ho rfl fun w6 ho=>?_;exact fin (L:=[]) b5 (hle.trans hle2) hwk ho
theorem rcount35_ret (d:Dc)(dv:Value)(M:Mem)(w:World)(hd:Dk.Ok d)(hM:M.has w)(hdv:DV M.A M.w dv d) :
  RetM prog 13 #[dv] M w (fun r N=>r=.tuple #[.int .i64 (Pg.leaves d).1.length,.int .i64 (Pg.leaves d).2]):=by
 obtain⟨vi,tk,tc,dcs,rfl,hda⟩:=hdv;refine retM_of hM fun K hK=>S_foliantref35_Count_ok ?_;unfold S_foliantref35_Count;refine o_dcb d hda.items.one hda.trailer.oneK hda.trailer.oneC (OwnS.memS hM) fun b1 w1 ho=>?_;rw[dc_v ho 0 rfl];refine c_mem ho 1 rfl (rleaves35_ret d _ M w1 hd (ho.hasM 1 rfl) hda.dv) ?_;rintro _ N w2 hle ⟨v,cs,rfl,hs,hls⟩ ho;simp only[errV,ex];rw[sl_len Tryz.underlying78 (hs.now (ho.hasM 1 rfl))];exact hK _ _ N _ 1 ho rfl hle rfl
theorem rl_at {M:Mem}{vi:Value}{l:List Lf}{cs:List Value}(hs:SlA M.A M.w vi 2 l.length cs)(hall:RVs M.A M.w cs l){i:Nat}(hi:i < l.length) :
  ∃(cv:Value) (b off:Nat),Chn M.A M.w cv l[i].chain.reverse∧(∀W,(mIA 78 vi (.int .i64 (i:Int))).run prog W=.ok (.value (.pointer (some ⟨b,off,none⟩))) W) ∧
   (∀W,M.has W→(mLoad 83 (.pointer (some ⟨b,off,none⟩))).run prog W=.ok (.value (rlV l[i] cv)) W)∧∀W,M.has W→(mLoad 3 (.pointer (some ⟨b,off,none⟩))).run prog W=.ok (.value (.int .i64 l[i].num)) W:=by
 obtain⟨b,off,cap,rfl,_⟩:=sl_open hs.1 (by omega);obtain⟨a,⟨cv,rfl,hc⟩,hget⟩:=Rws.get rlR_len i hi hall;have cell:∀W,M.has W→∀j v,(lfC l[i] cv)[j]?=some v→W.cell? ⟨b,off+i*2+j,none⟩=some v:=fun W hW j v hj=>by
  obtain⟨b',off',cap',he,hcell⟩:=sl_open (hs.now hW) (by omega);cases he;rw[Nat.add_assoc];exact hcell _ _ (hget j v hj)
 refine⟨cv,b,off+i*2,hc,fun W=>?_,fun W hW=>run_load_at (AtV.agg aggRl (cs:=lfC l[i] cv) rfl (cell W hW)),fun W hW=>run_load_cell nInt5 (by have:=cell W hW 0 _ rfl;rwa [Nat.add_zero] at this)⟩;refine (run_ia Tryz.underlying78 szRl (by omega) (by omega)).trans ?_;rw[Int.toNat_natCast]
theorem rplace35_ret (d:Dc)(num:Int)(dv:Value)(M:Mem)(w:World)(hd:Dk.Ok d)(hM:M.has w)(hdv:DV M.A M.w dv d) :
  RetM prog 15 #[dv,.int .i64 num] M w (fun r N=>r=.tuple #[.int .i64 (Pg.place d num).1,.bool (Pg.place d num).2]):=by
 obtain⟨vi,tk,tc,dcs,rfl,hda⟩:=hdv;refine retM_of hM fun K hK=>S_foliantref35_Place_ok ?_;unfold S_foliantref35_Place;refine o_dcb d hda.items.one hda.trailer.oneK hda.trailer.oneC (OwnS.memS hM) fun b1 w1 ho=>?_;rw[dc_v ho 0 rfl];refine c_mem ho 1 rfl (rleaves35_ret d _ M w1 hd (ho.hasM 1 rfl) hda.dv) ?_;rintro _ N w2 hle ⟨v,cs,rfl,hs,hls⟩ ho;have hll:=(Pg.leaves_ch hd).2;simp only[errV,ex];unfold Pg.place at hK;generalize (Pg.leaves d).1=l at *;refine loop (fun vs W=>∃i:Nat,vs=[.int .i64 i]∧i≤l.length∧Pg.placeG num 0 l=Pg.placeG num i (l.drop i)∧OwnS M.A w W [dcE b1 d vi tk tc,.mem N]) (fun vs _=>l.length - n0 vs) ⟨0,rfl,by omega,rfl,ho⟩ ?_;clear ho;rintro vs w3 ⟨i,rfl,hi,he,ho⟩ _;simp only[S_foliantref35_Place_0,gd];rw[sl_len Tryz.underlying78 (hs.now (ho.hasM 1 rfl))];simp only[rs];by_cases hlt:(i:Int) < (l.length:Int)
 ·have hi':i < l.length:=by omega
  simp only[hlt,decide_true,i_t];obtain⟨cv,b,off,hcv,r1,r2,r3⟩:=rl_at hs hls hi';refine do_eq (r1 w3) |>.mpr ?_;rw[fa_rl0];refine do_eq (r3 w3 (ho.hasM 1 rfl)) |>.mpr ?_;simp only[rs];rw[List.drop_eq_getElem_cons hi',Pg.placeG] at he;by_cases hn:l[i].num=num
  ·rw[if_pos hn] at he;simp only[hn,decide_true,i_t];exact hK _ _ N _ 1 ho rfl hle (by rw[he])
  ·rw[if_neg hn] at he;simp only[hn,decide_false,i_f];rw[wrap64_id (by omega) (by omega)];exact nextX ⟨i+1,rfl,by omega,he,ho⟩ (by simp[n0,RowKit.intOf];omega)
 ·simp only[hlt,decide_false,i_f];rw[List.drop_eq_nil_of_le (by omega),Pg.placeG] at he;exact hK _ _ N _ 1 ho rfl hle (by rw[he])
theorem rlist35_ret (d:Dc)(dv:Value)(M:Mem)(w:World)(hd:Dk.Ok d)(hM:M.has w)(hdv:DV M.A M.w dv d) :
  RetM prog 11 #[dv] M w (fun r N=>∃v cs,r=errV v (Pg.list d).2∧SlA N.A N.w v 16 (Pg.list d).1.length cs∧PgVs N.A N.w cs (Pg.list d).1):=by
 obtain⟨vi,tk,tc,dcs,rfl,hda⟩:=hdv;refine retM_of hM fun K hK=>S_foliantref35_List_ok ?_;unfold S_foliantref35_List;have no:∀{W:World} {N:Mem} {L:List Ent} {e:Int} (i:Nat),OwnS M.A w W L→L[i]?=some (.mem N)→M.le N→Pg.list d=([],e)→K (.returned (.tuple #[.slice none 0 0,.int .i64 e])) W:=fun i ho hi hle he=>
  hK _ _ _ _ i ho hi hle ⟨nilS,[],by rw[he];rfl,by rw[he];exact SlA.nil _ _ _ _,by rw[he];exact .nil⟩
 refine o_dcb d hda.items.one hda.trailer.oneK hda.trailer.oneC (OwnS.memS hM) fun b1 w1 ho=>?_;rw[dc_v ho 0 rfl];refine c_mem ho 1 rfl (rleaves35_ret d _ M w1 hd (ho.hasM 1 rfl) hda.dv) ?_;rintro _ N w2 hle ⟨v,cs,rfl,hs,hls⟩ ho;obtain⟨hch,hll⟩:=Pg.leaves_ch hd;simp only[errV,ex,n_err];by_cases h1:(Pg.leaves d).2=0
 case neg=>
  simp only[h1,ne_eq,not_false_eq_true,decide_true,i_t];exact no 1 ho rfl hle (by unfold Pg.list;rw[if_pos h1])
 have hl:Pg.list d=Pg.pagesG d (Pg.leaves d).1 []:=by unfold Pg.list;rw[if_neg (by simp[h1])]
 simp only[h1,ne_eq,not_true,decide_false,i_f];generalize (Pg.leaves d).1=l at *;have ho:OwnS M.A w w2 [.urow 48 16 nilS 0 [],dcE b1 d vi tk tc,.mem N]:=ho.nilU _ _;refine loop (fun vs W=>∃(i:Nat) (N':Mem) (v':Value) (ds:List Value) (acc:List Pge),vs=[v',.int .i64 i]∧i≤l.length∧N.le N'∧acc.length=i∧PgVs N'.A N'.w ds acc∧Pg.pagesG d l []=Pg.pagesG d (l.drop i) acc∧OwnS M.A w W [.urow 48 16 v' i ds,dcE b1 d vi tk tc,.mem N']) (fun vs _=>l.length - n1 vs)
  ⟨0,N,nilS,[],[],rfl,by omega,N.le_refl,rfl,.nil,rfl,ho⟩ ?_
 clear ho;rintro vs w3 ⟨i,N',v',ds,acc,rfl,hi,hle1,hacc,hds,he,ho⟩ _;simp only[S_foliantref35_List_0,gd];rw[sl_len Tryz.underlying78 ((hs.le hle1).now (ho.hasM 2 rfl))];simp only[rs];by_cases hlt:(i:Int) < (l.length:Int)
 ·have hi':i < l.length:=by omega
  simp only[hlt,decide_true,i_t];obtain⟨cv,b,off,hcv,r1,r2,r3⟩:=rl_at (hs.le hle1) (hls.le hle1) hi';have hcall:=fun {W:World} (hW:N'.has W)=>rpage35_ret d l[i] _ cv N' W hd (hch _ (List.getElem_mem hi')) hW (hda.le (hle.trans hle1)).dv hcv;rw[List.drop_eq_getElem_cons hi',Pg.pagesG] at he;have fin:∀{W:World} {N2:Mem} {pk pc:Value} {N7:List Value→World→Prop} (b8:Nat),N'.le N2→OV N2.A N2.w (obV (Pg.page d l[i]).1.res pk pc) (Pg.page d l[i]).1.res→OwnS M.A w W [pgE b8 (Pg.page d l[i]).1 pk pc,.urow 48 16 v' i ds,dcE b1 d vi tk tc,.mem N2] →
    (∀{W:World} {v2:Value},Pg.pagesG d l []=Pg.pagesG d (l.drop (i+1)) (acc++[(Pg.page d l[i]).1])→OwnS M.A w W [.urow 48 16 v2 (i+1) (ds++pgC (Pg.page d l[i]).1 pk pc),dcE b1 d vi tk tc,.mem N2]→N7 [v2,.int .i64 ((i:Int)+1)] W) →
    S_foliantref35_List_1 v' (.int .i64 i) (.pointer (some ⟨b8,0,none⟩)) (.int .i64 (Pg.page d l[i]).2) W N7 K:=by
   intro W N2 pk pc N7 b8 hle2 hp ho hN;unfold S_foliantref35_List_1;rw[n_err];by_cases hp2:(Pg.page d l[i]).2=0
   ·rw[if_neg (by simp[hp2])] at he;simp only[hp2,ne_eq,not_true,decide_false,i_f];rw[pg_v ho 0 rfl];refine o_pgs1 (Pg.page d l[i]).1 hp.oneK hp.oneC ho fun nb w9 ho=>?_;refine o_apPg 2 ho rfl (ho.sl 0 rfl 16 1 1 rfl) (pgC_one _ hp.oneK hp.oneC) (by omega) fun v2 w10 ho=>?_;simp only[rs];rw[wrap64_id (by omega) (by omega)];exact hN he ho.tail.tail
   ·rw[if_pos hp2] at he;simp only[hp2,ne_eq,not_false_eq_true,decide_true,i_t];exact no 3 ho rfl ((hle.trans hle1).trans hle2) (by rw[hl,he])
  have ho:=ho.drew;refine⟨fun W=>(dcE b1 d vi tk tc).is W∧N'.has W,⟨ho.at_ 1 rfl,ho.hasM 2 rfl⟩,?_⟩;refine hd_do _ (fun W h=>run_dcv h.1) (hd_pure _ r1 (hd_do _ (fun W h=>r2 W h.2) ?_));constructor
  ·refine c_mem ho 2 rfl (hcall (ho.hasM 2 rfl)) ?_;rintro _ N2 w6 hle2 ⟨_,rfl,pk,pc,rfl,hp⟩ ho;refine hd_ext (hd_ext1 ?_);refine o_pga ho fun b8 w7 ho=>⟨⟨ho.at_ 2 rfl,Mem.has_of hle2 (ho.hasM 3 rfl)⟩,?_⟩;refine pg_put 0 hp.oneK hp.oneC ho rfl fun w8 ho=>?_;exact fin b8 hle2 hp ho fun he ho=>nextX ⟨i+1,N2,_,ds++pgC (Pg.page d l[i]).1 pk pc,acc++[(Pg.page d l[i]).1],by simp,by omega,hle1.trans hle2,by simp[hacc],Rws.snoc ⟨pk,pc,rfl,hp⟩ (hds.le hle2),he,ho⟩ (by simp[n1,RowKit.intOf];omega)
  ·refine o_pga ho fun b8 w7 ho=>⟨⟨ho.at_ 2 rfl,ho.hasM 3 rfl⟩,?_⟩;refine c_mem ho 3 rfl (hcall (ho.hasM 3 rfl)) ?_;rintro _ N2 w6 hle2 ⟨_,rfl,pk,pc,rfl,hp⟩ ho;refine hd_ext (hd_ext1 ?_);refine pg_put 0 hp.oneK hp.oneC ho rfl fun w8 ho=>?_;exact fin b8 hle2 hp ho fun he ho=>nextX ⟨i+1,N2,_,ds++pgC (Pg.page d l[i]).1 pk pc,acc++[(Pg.page d l[i]).1],by simp,by omega,hle1.trans hle2,by simp[hacc],Rws.snoc ⟨pk,pc,rfl,hp⟩ (hds.le hle2),he,ho⟩ (by simp[n1,RowKit.intOf];omega)
 ·simp only[hlt,decide_false,i_f];rw[List.drop_eq_nil_of_le (by omega),Pg.pagesG] at he;obtain⟨N2,hle2,hrow,ho⟩:=OwnS.freezeU (L:=[dcE b1 d vi tk tc,.mem N']) ho 1 rfl;have hie:acc.length=i:=hacc;exact hK _ _ N2 _ 1 ho rfl (hle.trans (hle1.trans hle2)) ⟨v',ds,by rw[hl,he];rfl,by rw[hl,he];show SlA N2.A N2.w v' 16 acc.length ds;rw[hie];exact hrow,by rw[hl,he];exact hds.le hle2⟩
theorem rsameL35_ret (l:List Pge)(x y:Value)(cx cy:List Value)(M:Mem)(w:World)(hw:∀p∈l,p.res.wt≤1000000000)(hl:l.length≤1000000)(hM:M.has w)(hx:SlA M.A M.w x 16 l.length cx)(hxs:PgVs M.A M.w cx l)(hy:SlA M.A M.w y 16 l.length cy)(hys:PgVs M.A M.w cy l) :
  RetM prog 16 #[x,y] M w (fun r _=>r=.bool true):=by
 refine retM_of hM fun K hK=>S_foliantref35_Same_ok ?_;unfold S_foliantref35_Same;have ho:OwnS M.A w w [.mem M]:=OwnS.memS hM;rw[sl_len Tryz.underlying31 (hx.now hM),sl_len Tryz.underlying31 (hy.now hM)];simp only[rs,ne_eq,not_true,decide_false];refine loop (fun vs W=>∃i:Nat,vs=[.int .i64 i]∧i≤l.length∧OwnS M.A w W [.mem M]) (fun vs _=>l.length - n0 vs) ⟨0,rfl,by omega,ho⟩ ?_;clear ho;rintro vs w2 ⟨i,rfl,hi,ho⟩ _;simp only[S_foliantref35_Same_0,gd];rw[sl_len Tryz.underlying31 (hx.now (ho.hasM 0 rfl))];simp only[rs];by_cases hlt:(i:Int) < (l.length:Int)
 ·have hi':i < l.length:=by omega
  simp only[hlt,decide_true,rs];rw[sl_len Tryz.underlying31 (hy.now (ho.hasM 0 rfl))];simp only[hlt,decide_true,rs];obtain⟨pk,pc,pb,po,hp,p1,p2,-⟩:=page_at hx hxs hi';obtain⟨qk,qc,qb,qo,hq,q1,q2,-⟩:=page_at hy hys hi';refine quietC (fun W=>OwnS M.A w W [.mem M]) ho.drew ?_;refine q_do _ p1 (q_at _ (fun W h=>p2 W (h.hasM 0 rfl)) (q_do _ q1 (q_at _ (fun W h=>q2 W (h.hasM 0 rfl)) ?_)));refine q_call (.bool true) (fun W h=>(rsamepage_ret l[i] _ _ M W (hw _ (List.getElem_mem hi')) (h.hasM 0 rfl) ⟨pk,pc,rfl,hp⟩ ⟨qk,qc,rfl,hq⟩).mono fun v w' r=>⟨r.1,h.grow r.2⟩) ?_;refine q_do _ (fun _=>run_notP) ?_;intro w3 ho;simp only[Bool.not_true,i_f]
  try simp only[rs]
  rw[wrap64_id (by omega) (by omega)];exact nextX ⟨i+1,rfl,by omega,ho⟩ (by simp[n0,RowKit.intOf];omega)
 ·simp only[hlt,decide_false,rs,g_un];exact hK _ _ M _ 0 ho rfl M.le_refl rfl
theorem Pg.list_wts {d:Dc}(hd:Dk.Ok d):(∀p∈(Pg.list d).1,p.res.wt≤1000000000)∧(Pg.list d).1.length≤1000000:=by
 by_cases h:(Pg.list d).2=0
 ·refine⟨fun p hp=>?_,?_⟩
  ·obtain⟨i,hi,rfl⟩:=List.getElem_of_mem hp;exact (Pg.list_wt hd h hi).1
  ·obtain⟨-,hlm,-⟩:=Pg.list_ok h;have:=(Pg.leaves_ch hd).2;rw[hlm,List.length_map];omega
 ·rw[Pg.list_err h];exact⟨fun p hp=>(by cases hp),by simp⟩
theorem pagesList_ret (d:Dc)(n:Int)(dv:Value)(M:Mem)(w:World)(hd:Dk.Ok d)(hsz:Dk.size d≤1000000000000)(hM:M.has w)(hdv:DV M.A M.w dv d) :
  RetM prog 3 #[dv,.int .i64 n] M w (fun r _=>r=.bool true):=by
 obtain⟨vi,tk,tc,dcs,rfl,hda⟩:=hdv;refine retM_of hM fun K hK=>S_foliantlaw35_PagesList_ok ?_;unfold S_foliantlaw35_PagesList;refine o_dcb d hda.items.one hda.trailer.oneK hda.trailer.oneC (OwnS.memS hM) fun b2 w1 ho=>?_;rw[dc_v ho 0 rfl];refine c_mem ho 1 rfl (lsmall_ret d _ M w1 hd hsz (ho.hasM 1 rfl) hda.dv) ?_;rintro _ N w3 hle rfl ho;have hda:=hda.le hle;cases hs:smallD d with
|false=>
  simp only[rs,Bool.not_false];refine c_mem ho 1 rfl (lives35_ret N w3 (ho.hasM 1 rfl)) ?_;rintro _ N' W' hle' rfl ho;exact hK _ _ N' _ 1 ho rfl (hle.trans hle') rfl
|true=>
 simp only[rs,Bool.not_true];rw[dc_v ho 0 rfl];refine c_mem ho 1 rfl (plist_ret d _ N w3 hd (ho.hasM 1 rfl) hda.dv) ?_;rintro _ N1 w4 g1 ⟨x,cx,rfl,hx,hxs⟩ ho;simp only[errV,ex];rw[dc_v ho 0 rfl];refine c_mem ho 1 rfl (rlist35_ret d _ N1 w4 hd (ho.hasM 1 rfl) (hda.le g1).dv) ?_;rintro _ N2 w5 g2 ⟨y,cy,rfl,hy,hys⟩ ho;simp only[errV,ex];have g12:=g1.trans g2;rw[dc_v ho 0 rfl];refine c_mem ho 1 rfl (pcount_ret d _ N2 w5 hd (ho.hasM 1 rfl) (hda.le g12).dv) ?_;rintro _ N3 w6 g3 rfl ho;simp only[ex];have g13:=g12.trans g3;rw[dc_v ho 0 rfl];refine c_mem ho 1 rfl (rcount35_ret d _ N3 w6 hd (ho.hasM 1 rfl) (hda.le g13).dv) ?_;rintro _ N4 w7 g4 rfl ho;simp only[ex];have g14:=g13.trans g4;rw[dc_v ho 0 rfl];refine c_mem ho 1 rfl (pplace_ret d n _ N4 w7 hd (ho.hasM 1 rfl) (hda.le g14).dv) ?_;rintro _ N5 w8 g5 rfl ho;simp only[ex];have g15:=g14.trans g5;rw[dc_v ho 0 rfl];refine c_mem ho 1 rfl (rplace35_ret d n _ N5 w8 hd (ho.hasM 1 rfl) (hda.le g15).dv) ?_;rintro _ N6 w9 g6 rfl ho;simp only[ex];have g26:=g3.trans (g4.trans (g5.trans g6));obtain⟨hw,hln⟩:=Pg.list_wts hd;refine c_mem ho 1 rfl (rsameL35_ret (Pg.list d).1 x y cx cy N6 w9 hw hln (ho.hasM 1 rfl) (hx.le (g2.trans g26)) (hxs.le (g2.trans g26)) (hy.le g26) (hys.le g26)) ?_;rintro _ N7 w10 g7 rfl ho;have eb:∀{xo yo:Operand} {PK:PKT} {K:VWP} {b:Bool},DoX prog (mEq .eql 4 xo yo (.bool b) (.bool b)) w10 PK K=K (.bool true) w10:=by
  intros
  rw[e_bool Tryz.underlying4];simp
 simp only[rs,decide_true,eb];refine c_mem ho 1 rfl (lives35_ret N7 w10 (ho.hasM 1 rfl)) ?_;rintro _ N8 w11 g8 rfl ho
 try simp only[rs]
 exact hK _ _ N8 _ 1 ho rfl (hle.trans (g12.trans (g26.trans (g7.trans g8)))) rfl
end
end Go.Proofs.YtoobidofdpdkbaaGreatDoor










namespace Go.Proofs.YtoobidofdpdkbaaGreatDoor
section
open Eng Go.RowKit Go.ChangeShapes Go.WideShapes Go.ChangeAt
set_option maxRecDepth 100000
theorem list3d {α:Type}:∀{l:List α},l.length=3→∃a b c,l=[a,b,c]
|[a,b,c],_=>⟨a,b,c,rfl⟩
theorem list2d {α:Type}:∀{l:List α},l.length=2→∃a b,l=[a,b]
|[a,b],_=>⟨a,b,rfl⟩
theorem list8d {α:Type}:∀{l:List α},l.length=8→∃a b c d e f g h,l=[a,b,c,d,e,f,g,h]
|[a,b,c,d,e,f,g,h],_=>⟨a,b,c,d,e,f,g,h,rfl⟩
theorem list7d {α:Type}:∀{l:List α},l.length=7→∃a b c d e f g,l=[a,b,c,d,e,f,g]
|[a,b,c,d,e,f,g],_=>⟨a,b,c,d,e,f,g,rfl⟩
section
variable {H:Type}{enc:TypeId×Value→H}{W:World}{sp:Nat→Bool}{held:Bool}
theorem open_item (fuel:Nat)(cs:List Value)(x:DataW H×List MemPlace)(h:DataW.trod enc prog W 0 sp held fuel 53 cs=some x):∃i:It,itR (InW W) W cs i∧cs.length=8∧i.obj.wt≤Rows.uptoBulk x.1:=by
 obtain⟨xs,n,rfl,rfl,hl,hxl,hf⟩:=DataW.trod_struct Tryz.underlying53 h;have c8:Tryz.prog.cellsOf 53=8:=by kernel_rfl
 rw[c8] at hl;have hxl:xs.length=3:=hxl;obtain⟨x0,x1,x2,rfl⟩:=list3d hxl;obtain⟨v0,v1,v2,v3,v4,v5,v6,v7,rfl⟩:=list8d hl;have e0:=hf 0 _ rfl;have e1:=hf 1 _ rfl;have e2:=hf 2 _ rfl;have k0:Tryz.prog.cellsOf 3=1:=by kernel_rfl
 have k6:Tryz.prog.cellsOf 26=6:=by kernel_rfl
 simp only[k0,k6,List.drop_zero,List.drop_succ_cons,List.take_succ_cons,List.take_zero,List.getElem?_cons_zero,List.getElem?_cons_succ] at e0 e1 e2;obtain⟨m,hm,rfl,_⟩:=DataW.trod_int Tryz.underlying3 e0;obtain⟨g,hg,rfl,_⟩:=DataW.trod_int Tryz.underlying3 e1;obtain⟨o,h1,h2,h3⟩:=open_obj _ _ _ e2
 injection hm with hm _
 injection hg with hg _
 subst hm;subst hg;obtain⟨vk,vc,ocs,he,ha⟩:=h1.open;have he:[v2,v3,v4,v5,v6,v7]=obC o vk vc:=by
  have:[v2,v3,v4,v5,v6,v7].toArray=(obC o vk vc).toArray:=by injection he
  simpa using congrArg Array.toList this
 refine⟨⟨m,g,o⟩,⟨vk,vc,?_,ha.ov⟩,rfl,?_⟩
 ·show _=.int .i64 m::.int .i64 g::obC o vk vc;rw[←he]
 ·show o.wt≤_;simp only[Rows.uptoBulk,List.map_cons,List.map_nil,Rows.uptoBulkAll];omega
theorem wti_le:∀{l:List It} {i:It},i∈l→i.obj.wt≤(l.map fun i=>i.obj.wt).sum
|a::l,i,h=>by
  rw[List.map_cons,List.sum_cons];rcases List.mem_cons.1 h with rfl|h
  ·omega
  ·have:=wti_le h;omega
theorem len_wti:∀l:List It,l.length≤(l.map fun i=>i.obj.wt).sum
|[]=>by simp
|a::l=>by
  have:=len_wti l;have:=a.obj.wt_pos;rw[List.map_cons,List.sum_cons,List.length_cons];omega
theorem size_wti:∀l:List It,(l.map fun i=>Vl.size i.obj).sum≤(l.map fun i=>i.obj.wt).sum
|[]=>by simp
|a::l=>by
  have:=size_wti l;have:=Vl.size_wt a.obj;rw[List.map_cons,List.sum_cons,List.map_cons,List.sum_cons];omega
theorem row_doc {b0:Nat}{v:Value}{d:DataW H}{ps:List MemPlace}(hval:Value.okWide prog W .any b0 28 v)(hd:DataW.Trod enc prog W 0 sp held 28 v d ps) :
  ∃x:Dc,DV (InW W) W v x∧Lb.Sm (Rows.uptoBulk d) x∧Dk.size x≤Rows.uptoBulk d:=by
 obtain⟨cs,rfl,_⟩:=okWide_struct Tryz.underlying28 hval;obtain⟨fuel,h⟩:=hd;have h:DataW.trod enc prog W 0 sp held fuel 28 cs.toList=some (d,ps):=h;obtain⟨xs,n,rfl,hdd,hl,hxl,hf⟩:=DataW.trod_struct Tryz.underlying28 h;have c7:Tryz.prog.cellsOf 28=7:=by kernel_rfl
 rw[c7] at hl;have hxl:xs.length=2:=hxl;obtain⟨x0,x1,rfl⟩:=list2d hxl;obtain⟨v0,v1,v2,v3,v4,v5,v6,hcs⟩:=list7d hl;rw[hcs] at hf;have e0:=hf 0 _ rfl;have e1:=hf 1 _ rfl;have k0:Tryz.prog.cellsOf 22=1:=by kernel_rfl
 have k6:Tryz.prog.cellsOf 26=6:=by kernel_rfl
 simp only[k0,k6,List.drop_zero,List.drop_succ_cons,List.take_succ_cons,List.take_zero,List.getElem?_cons_zero,List.getElem?_cons_succ] at e0 e1;obtain⟨v',ds,is,h1,h2,h3,h4,h5⟩:=open_slice_of (R:=itR (InW W) W) (wt:=fun i=>i.obj.wt) (n:=8) Tryz.underlying22 (by kernel_rfl) (by decide) open_item e0
 injection h1 with h1 _
 subst h1;obtain⟨o,g1,g2,g3⟩:=open_obj _ _ _ e1;obtain⟨vk,vc,ocs,he,ha⟩:=g1.open;have he:[v1,v2,v3,v4,v5,v6]=obC o vk vc:=by
  have:[v1,v2,v3,v4,v5,v6].toArray=(obC o vk vc).toArray:=by injection he
  simpa using congrArg Array.toList this
 have hb:Rows.uptoBulk x0.1+Rows.uptoBulk x1.1≤Rows.uptoBulk d:=by
  have hdd:d=_:=congrArg Prod.fst hdd;rw[hdd];simp only[Rows.uptoBulk,List.map_cons,List.map_nil,Rows.uptoBulkAll];omega
 have hw:∀i∈is,i.obj.wt≤(is.map fun i=>i.obj.wt).sum:=fun i hi=>wti_le hi;have hl:=len_wti is;have hz:=size_wti is;have ho:=Vl.size_wt o;refine⟨⟨is,o⟩,⟨v0,vk,vc,ds,?_,h2,h3,ha.ov⟩,⟨?_,fun i hi=>?_,?_⟩,?_⟩
 ·rw[dcV,dcC];show Value.agg cs=.agg (v0::obC o vk vc).toArray;rw[←he,←hcs]
 ·show is.length≤_;omega
 ·have:=hw i hi;omega
 ·show o.wt≤_;omega
 ·show Vl.size o+(is.map fun i=>Vl.size i.obj).sum≤_;omega
end
theorem Lb.Sm.mono {B C:Nat}{d:Dc}(h:Lb.Sm B d)(hBC:B≤C):Lb.Sm C d:=⟨Nat.le_trans h.len hBC,fun i hi=>Nat.le_trans (h.items i hi) hBC,Nat.le_trans h.trailer hBC⟩
end
section
open Eng Go.RowKit Go.ChangeShapes Go.WideShapes Go.ChangeAt
set_option maxRecDepth 100000
def layReps (w:World)(g:Nat):World:=
 { w with heap:=(w.heap.modify g fun
  |.cells _ t frozen=>.cells #[.map (some w.heap.size)] t frozen
  |o=>o).push (.map #[⟨.int .i64 16,.agg #[.int .i64 3,.int .i64 2],0⟩,⟨.int .i64 17,.agg #[.int .i64 3,.int .i64 3],1⟩,⟨.int .i64 18,.agg #[.int .i64 11,.int .i64 7],2⟩] 3) }
section
variable {H:Type}{enc:TypeId×Value→H}{W:World}{sp:Nat→Bool}{held:Bool}
end
end
section
open Eng Go.RowKit
theorem pagesList_row (d:Dc)(n:Int)(dv:Value)(w:World)(hdv:DV (InW w) w dv d)(hsm:Lb.Sm 1048576 d)(hsz:Dk.size d≤1000000000):Ret prog 3 #[dv,.int .i64 n] w (fun v w'=>v=.bool true∧Below w.heap.size w w'):=
 RetM.told (pagesList_ret d n dv (Mem.all w) w (hsm.ok (by omega)) (by omega) (Mem.all_has w) hdv)
end
end Go.Proofs.YtoobidofdpdkbaaGreatDoor
