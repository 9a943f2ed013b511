/- Texts that go together: FoF IntsW FoG STexts OcTx FoK SFontR FoL Plain06 Plain07B LbB LbC LbD LbE DcF Plain19B DcG DcH SLaw07 ObP ObQ ObR SSame ObSm SApart Plain07C ObS0 ObT DcI LbF Plain38B Plain38C Plain38D Plain38E Plain06B Plain06C Plain06D Plain06E Plain35 Plain35B Plain35C Plain05P Plain47B SFontM FoM FoN FoH FoI FoJ EngAI SFontC SMake6 FoO FoP FoQ. -/
import Derived.Shelf.Unicode.ValidAny
import Derived.Test.YtmkodaephgnehaaGreatDoorRows
import Derived.Test.YtmkodaephgnehaaGreatDoorMkkceimln
import Derived.Test.YtmkodaephgnehaaGreatDoorMmkpgbmin
import Derived.Test.YtmkodaephgnehaaGreatDoorMmkfanipp
set_option linter.defProp false
set_option linter.unusedSimpArgs false
set_option linter.unusedVariables false
set_option maxRecDepth 20000
open Go.Proofs.Tryz (prog)
namespace Go.Proofs.YtmkodaephgnehaaGreatDoor
section
open Eng Go.RowKit
def mpC (x:Cm.Mp):List Value:=[.int .i64 x.1,.string ⟨x.2.toArray⟩]
def mpV (x:Cm.Mp):Value:=.agg (mpC x).toArray
abbrev mpE (b:Nat)(x:Cm.Mp):Ent:=.cells b (mpC x) 44
def mpsC (l:List Cm.Mp):List Value:=l.flatMap mpC
theorem mpC_len (x:Cm.Mp):(mpC x).length=2:=rfl
theorem mpC_one (x:Cm.Mp):∀v∈mpC x,v.oneCell'=true:=by
 intro v hv;simp only[mpC,List.mem_cons,List.not_mem_nil,or_false] at hv;rcases hv with rfl|rfl<;>rfl
theorem szMp:(Tryz.prog.info? 44).map (·.size)=some 2:=by kernel_rfl
theorem aggMp:aggN prog 44=some 2:=by kernel_rfl
theorem mp_cells {M:Mem}{v:Value}{l:List Cm.Mp}(hs:SlA M.A M.w v 2 l.length (mpsC l)){i:Nat}(hi:i < l.length) :
  ∃b off,(∀W,(mIA 24 v (.int .i64 (i:Int))).run prog W=.ok (.value (.pointer (some ⟨b,off,none⟩))) W)∧(∀W,M.has W→W.cell? ⟨b,off,none⟩=some (.int .i64 l[i].1)∧W.cell? ⟨b,off+1,none⟩=some (.string ⟨l[i].2.toArray⟩)) ∧
   ∀W,M.has W→(mLoad 44 (.pointer (some ⟨b,off,none⟩))).run prog W=.ok (.value (mpV l[i])) W:=by
 obtain⟨b,off,cap,rfl,_⟩:=sl_open hs.1 (by omega);have hc0:∀W,M.has W→∀j u,(mpC l[i])[j]?=some u→W.cell? ⟨b,off+i*2+j,none⟩=some u:=by
  intro W hW j u hj;obtain⟨b',off',cap',he,hc⟩:=sl_open (hs.now hW) (by omega);cases he;rw[Nat.add_assoc];exact hc _ _ (Eng.flat_get mpC_len hi hj)
 refine⟨b,off+i*2,fun W=>?_,fun W hW=>⟨hc0 W hW 0 _ rfl,hc0 W hW 1 _ rfl⟩,fun W hW=>?_⟩
 ·have:=run_ia (P:=prog) (T:=24) (b:=b) (off:=off) (cap:=cap) (n:=l.length) (k:=.i64) (i:=(i:Int)) (w:=W) Tryz.underlying24 szMp (by omega) (by omega);rw[Int.toNat_natCast] at this;exact this
 ·exact run_load_at (v:=mpV l[i]) (AtV.agg aggMp rfl fun j v hj=>hc0 W hW j v hj)
section
variable {w:World}{PK:PKT}{K:VWP}{S:Nat→Prop}{w0:World}{L:List Ent}
theorem o_mpa (ho:OwnS S w0 w L)(k:∀b w',OwnS S w0 w' (mpE b (0,[])::L)→K (.pointer (some ⟨b,0,none⟩)) w'):DoX prog (mAlloc 44) w PK K:=
 o_new (fun b=>.pointer (some ⟨b,0,none⟩)) (mpC (0,[])) 44 (fun _=>by kernel_rfl) ho k
theorem o_mpb (x:Cm.Mp)(ho:OwnS S w0 w L)(k:∀b w',OwnS S w0 w' (mpE b x::L)→K (.pointer (some ⟨b,0,none⟩)) w'):DoX prog (mBox 44 (mpV x)) w PK K:=
 o_new (fun b=>.pointer (some ⟨b,0,none⟩)) (mpC x) 44 (fun _=>by kernel_rfl) ho k
theorem mp_put (i:Nat){b:Nat}{x y:Cm.Mp}(ho:OwnS S w0 w L)(hi:L[i]?=some (mpE b x))(k:∀w',OwnS S w0 w' (L.set i (mpE b y))→K undef w'):DoX prog (mStore 44 (.pointer (some ⟨b,0,none⟩)) (mpV y)) w PK K:=
 o_put i ho hi (new:=mpC y) szMp (mpC_one y) rfl k
theorem fa_m0 {b off:Nat}:DoX prog (mFA 44 (.pointer (some ⟨b,off,none⟩)) 0) w PK K=K (.pointer (some ⟨b,off,none⟩)) w:=f_addr (o:=0) (by kernel_rfl)
theorem fa_m1 {b off:Nat}:DoX prog (mFA 44 (.pointer (some ⟨b,off,none⟩)) 1) w PK K=K (.pointer (some ⟨b,off+1,none⟩)) w:=f_addr (o:=1) (by kernel_rfl)
end
theorem r_fam0 {w:World}{b off:Nat}:(mFA 44 (.pointer (some ⟨b,off,none⟩)) 0).run prog w=.ok (.value (.pointer (some ⟨b,off,none⟩))) w:=run_fa (o:=0) (by kernel_rfl)
def UtM (M:Mem):Prop:=∀w,M.has w→Lib.Utf8Tabs 1 2 w
theorem UtM.le {M N:Mem}(h:UtM M)(hle:M.le N):UtM N:=fun w hN=>h w (Mem.has_of hle hN)
def u8ren:Go.Shelf.Ren:=⟨fun|196=>59|259=>92|n=>n,fun|119=>103|138=>132|139=>133|46=>58|53=>59|n=>n,fun|3=>1|4=>2|n=>n⟩
theorem u8lays:Go.Proofs.Lays.n196 prog u8ren:={
 mixed:=by kernel_rfl
 f196:=Tryz.func59.trans (congrArg some (by kernel_rfl))
 f259:=Tryz.func92.trans (congrArg some (by kernel_rfl))
 t0:=by kernel_rfl
 a0:=fun _=>by kernel_rfl
 z0:=fun _=>by kernel_rfl
 v0:=fun _=>by kernel_rfl
 t3:=by kernel_rfl
 a3:=fun _=>by kernel_rfl
 z3:=fun _=>by kernel_rfl
 v3:=fun _=>by kernel_rfl
 t4:=by kernel_rfl
 a4:=fun _=>by kernel_rfl
 z4:=fun _=>by kernel_rfl
 v4:=fun _=>by kernel_rfl
 t5:=by kernel_rfl
 a5:=fun _=>by kernel_rfl
 z5:=fun _=>by kernel_rfl
 v5:=fun _=>by kernel_rfl
 t9:=by kernel_rfl
 a9:=fun _=>by kernel_rfl
 z9:=fun _=>by kernel_rfl
 v9:=fun _=>by kernel_rfl
 t12:=by kernel_rfl
 a12:=fun _=>by kernel_rfl
 z12:=fun _=>by kernel_rfl
 v12:=fun _=>by kernel_rfl
 t46:=by kernel_rfl
 a46:=fun _=>by kernel_rfl
 z46:=fun _=>by kernel_rfl
 v46:=fun _=>by kernel_rfl
 t53:=by kernel_rfl
 a53:=fun _=>by kernel_rfl
 z53:=fun _=>by kernel_rfl
 v53:=fun _=>by kernel_rfl
 t119:=by kernel_rfl
 a119:=fun _=>by kernel_rfl
 z119:=fun _=>by kernel_rfl
 t138:=by kernel_rfl
 a138:=fun _=>by kernel_rfl
 z138:=fun _=>by kernel_rfl
 v138:=fun _=>by kernel_rfl
 t139:=by kernel_rfl
 a139:=fun _=>by kernel_rfl
 z139:=fun _=>by kernel_rfl
 v139:=fun _=>by kernel_rfl
 g3:=by kernel_rfl
 g4:=by kernel_rfl }
theorem valid_ret (s:List UInt8)(w:World)(hs:s.length≤1000000000)(hT:Lib.Utf8Tabs 1 2 w):Ret prog 59 #[.string ⟨s.toArray⟩] w (fun v w'=>v=.bool (Lib.validD s)∧Below w.heap.size w w'):=by
 have:=Any.utf8_ValidString u8lays ⟨s.toArray⟩ w (by rw[str_size];omega) hT;exact ret_calls this
namespace Cm
theorem checkG_step {m:Int}{last:Option Int}{l:List Mp}{i:Nat}(hi:i < l.length):checkG m last (l.drop i) =
  if l[i].1 < 0∨m < l[i].1 then 2 else if Lib.validD l[i].2=false then 3 else if 512 < (units l[i].2).length then 5 else if last=some l[i].1 then 9 else if last.any (fun n=>decide (l[i].1 < n)) then 1 else checkG m (some l[i].1) (l.drop (i+1)):=by
 rw[List.drop_eq_getElem_cons hi,checkG]
def prev (l:List Mp):Nat→Option Int
|0=>none
|i+1=>(l[i]?).map (·.1)
end Cm
namespace Cm
theorem prev_succ {l:List Mp}{i:Nat}(hi:i < l.length):prev l (i+1)=some l[i].1:=by simp[prev,hi]
theorem prev_pos {l:List Mp}{i:Nat}(h0:i≠0)(hi:i < l.length):prev l i=some (l[i - 1]'(by omega)).1:=by
 obtain⟨j,rfl⟩:∃j,i=j+1:=⟨i - 1,by omega⟩;exact prev_succ (by omega)
end Cm
theorem ccheck46_ret (l:List Cm.Mp)(wide:Bool)(v:Value)(M:Mem)(w:World)(hut:UtM M)(hl:l.length≤1000000000)(hb:∀x∈l,x.2.length≤100000000)(hM:M.has w)(hs:SlA M.A M.w v 2 l.length (mpsC l)) :
  RetM prog 31 #[v,.bool wide] M w (fun r _=>r=.int .i64 (Cm.check l wide)):=by
 refine retM_of hM fun K hK=>S_cmap_Check_ok ?_;unfold S_cmap_Check;generalize hX:Cm.check l wide=X at hK;unfold Cm.check at hX;have go:S_cmap_Check_0 v (.int .i64 (Cm.most wide)) w K:=by
  unfold S_cmap_Check_0;rw[sl_len Tryz.underlying24 (hs.now hM)]
  try simp only[rs]
  by_cases h1:(4096:Int) < (l.length:Int)
  ·rw[if_pos (by omega)] at hX;simp only[decide_eq_true h1,i_t];exact hK _ _ M _ 0 (OwnS.memS hM) rfl M.le_refl (by rw[←hX])
  rw[if_neg (by omega)] at hX;simp only[decide_eq_false h1,i_f];rw[sl_len Tryz.underlying24 (hs.now hM)];generalize hmm:Cm.most wide=most at *;have hmost:0≤most∧most≤65535:=by rw[←hmm];cases wide<;>decide
  have fin:∀{W:World} {L:List Ent} {e:Int} (j:Nat),OwnS M.A w W L→L[j]?=some (.mem M)→X=e→K (.returned (.int .i64 e)) W:=fun j ho hj he=>hK _ _ M _ j ho hj M.le_refl (by rw[he]);refine loop (fun vs W=>∃i:Nat,vs=[.int .i64 (i:Int)]∧i≤l.length∧Cm.checkG most (Cm.prev l i) (l.drop i)=X∧OwnS M.A w W [.mem M]) (fun vs _=>l.length - n0 vs) ⟨0,rfl,by omega,hX,OwnS.memS hM⟩ ?_;clear hX;rintro vs w2 ⟨i,rfl,hi,hX,ho⟩ _;simp only[S_cmap_Check_1,gd,rs];by_cases hlt:(i:Int) < (l.length:Int)
  case neg=>
   simp only[decide_eq_false hlt,i_f];rw[List.drop_of_length_le (by omega)] at hX;exact fin 0 ho rfl hX.symm
  simp only[decide_eq_true hlt,i_t];have hi':i < l.length:=by omega
  rw[Cm.checkG_step hi'] at hX;obtain⟨g,off,hia,hcell,hld⟩:=mp_cells hs hi';have hbx:=hb l[i] (List.getElem_mem hi');rw[do_eq (hia w2),do_eq (hld w2 (ho.hasM 0 rfl))];refine o_mpa ho fun b w3 ho=>?_;refine mp_put (y:=l[i]) 0 ho rfl fun w4 ho=>?_;have ho:OwnS M.A w w4 [mpE b l[i],.mem M]:=ho;rw[fa_m0,l_cell nInt5 (ho.cell 0 rfl 0 rfl)]
  try simp only[rs]
  by_cases a1:l[i].1 < 0
  ·rw[if_pos (.inl a1)] at hX;simp only[decide_eq_true a1,rs,g_un,i_t];exact fin 1 ho rfl hX.symm
  simp only[decide_eq_false a1,rs];rw[fa_m0,l_cell nInt5 (ho.cell 0 rfl 0 rfl)]
  try simp only[rs]
  by_cases a2:most < l[i].1
  ·rw[if_pos (.inr a2)] at hX;simp only[decide_eq_true a2,rs,i_t];exact fin 1 ho rfl hX.symm
  rw[if_neg (by omega)] at hX;simp only[decide_eq_false a2,rs,i_f];rw[fa_m1,l_cell nStr5 (ho.cell 0 rfl 1 rfl)];refine c_below ho (R:=fun v=>v=.bool (Lib.validD l[i].2)) (valid_ret l[i].2 w4 (by omega) (hut w4 (ho.hasM 1 rfl))) ?_;rintro _ w5 rfl ho
  try simp only[rs]
  cases hv:Lib.validD l[i].2 with
 |false=>
   rw[if_pos hv] at hX;simp only[Bool.not_false,i_t];exact fin 1 ho rfl hX.symm
 |true=>
  rw[if_neg (by rw[hv];decide)] at hX;simp only[Bool.not_true,i_f];rw[fa_m1,l_cell nStr5 (ho.cell 0 rfl 1 rfl)];refine c_below ho (R:=fun v=>v=.string ⟨(Cm.units l[i].2).toArray⟩) (units46_ret l[i].2 w5 (by omega)) ?_;rintro _ w6 rfl ho;rw[s_len Tryz.underlying9]
  try simp only[rs]
  by_cases a3:(512:Int) < ((Cm.units l[i].2).length:Int)
  ·rw[if_pos (by omega)] at hX;simp only[decide_eq_true a3,i_t];exact fin 1 ho rfl hX.symm
  rw[if_neg (by omega)] at hX;simp only[decide_eq_false a3,i_f];by_cases h0:i=0
  ·subst h0;rw[show Cm.prev l 0=none from rfl,if_neg (by simp),if_neg (by simp)] at hX;refine quiet (q_gtr ?_);simp only[show decide ((0:Int) < ((0:Nat):Int))=false from rfl,gq_ft,gq_un];refine q_pf ?_;intro w7 hb7;have ho:=ho.grow hb7;simp only[i_f];refine quiet (q_gtr ?_);simp only[show decide ((0:Int) < ((0:Nat):Int))=false from rfl,gq_ft,gq_un];refine q_pf ?_;intro w8 hb8;have ho:=ho.grow hb8;simp only[i_f,rs];rw[wrap64_id (by omega) (by omega)];exact nextX ⟨1,rfl,by omega,by rw[Cm.prev_succ hi'];exact hX,ho.tail⟩ (by simp[n0,RowKit.intOf];omega)
  rw[Cm.prev_pos h0 hi'] at hX;have hi1:i - 1 < l.length:=by omega
  obtain⟨g2,off2,hia2,hcell2,hld2⟩:=mp_cells hs hi1;have e1:IntKind.wrap .i64 ((i:Int) - 1)=((i - 1:Nat):Int):=by rw[wrap64_id (by omega) (by omega)];omega
  have gt0:decide ((0:Int) < (i:Int))=true:=decide_eq_true (by omega);refine quietC (fun W=>OwnS M.A w W [mpE b l[i],.mem M]) ho.drew ?_;refine q_gtr ?_;simp only[gt0,gq_tt];refine q_do _ (fun _=>r_fam0) ?_;refine q_at (.int .i64 l[i].1) (fun W h=>run_load_cell nInt5 (h.cell 0 rfl 0 rfl)) ?_;refine q_do (.int .i64 ((i - 1:Nat):Int)) (fun _=>by rw[r_sub,e1]) ?_;refine q_do _ (fun W=>hia2 W) ?_;refine q_do _ (fun _=>r_fam0) ?_;refine q_at (.int .i64 l[i - 1].1) (fun W h=>run_load_cell nInt5 (hcell2 W (h.hasM 1 rfl)).1) ?_;refine q_eq ?_;refine q_pt ?_;intro w7 ho;by_cases a4:l[i].1=l[i - 1].1
  ·rw[if_pos (by rw[a4])] at hX;simp only[decide_eq_true a4,i_t];exact fin 1 ho rfl hX.symm
  rw[if_neg (fun h=>a4 (Option.some.inj h).symm)] at hX;simp only[decide_eq_false a4,i_f];refine quietC (fun W=>OwnS M.A w W [mpE b l[i],.mem M]) ho.drew ?_;refine q_gtr ?_;simp only[gt0,gq_tt];refine q_do _ (fun _=>r_fam0) ?_;refine q_at (.int .i64 l[i].1) (fun W h=>run_load_cell nInt5 (h.cell 0 rfl 0 rfl)) ?_;refine q_do (.int .i64 ((i - 1:Nat):Int)) (fun _=>by rw[r_sub,e1]) ?_;refine q_do _ (fun W=>hia2 W) ?_;refine q_do _ (fun _=>r_fam0) ?_;refine q_at (.int .i64 l[i - 1].1) (fun W h=>run_load_cell nInt5 (hcell2 W (h.hasM 1 rfl)).1) ?_;refine q_lss ?_;refine q_pt ?_;intro w8 ho;by_cases a5:l[i].1 < l[i - 1].1
  ·rw[if_pos (by simpa using a5)] at hX;simp only[decide_eq_true a5,i_t];exact fin 1 ho rfl hX.symm
  rw[if_neg (by simpa using a5)] at hX;simp only[decide_eq_false a5,i_f,rs];rw[wrap64_id (by omega) (by omega)];exact nextX ⟨i+1,rfl,by omega,by rw[Cm.prev_succ hi'];exact hX,ho.tail⟩ (by simp[n0,RowKit.intOf];omega)
 refine join fun J hJ=>?_;cases wide with
|true=>simp only[i_t];exact hJ _ _ fun _=>go
|false=>simp only[i_f];exact hJ _ _ fun _=>go
theorem find1_plain:plainB prog 53=true:=by kernel_rfl
theorem cfind46_ret (l:List Cm.Mp)(n:Int)(v:Value)(M:Mem)(w:World)(hl:l.length≤1000000000)(hM:M.has w)(hs:SlA M.A M.w v 2 l.length (mpsC l)) :
  RetM prog 26 #[v,.int .i64 n] M w (fun r _=>r=.tuple #[.string ⟨((Cm.find l n).map (·.2) |>.getD []).toArray⟩,.bool (Cm.find l n).isSome]):=by
 refine retM_of hM fun K hK=>S_cmap_Find_ok ?_;unfold S_cmap_Find;have hfi:Cm.find l n=l[l.findIdx (fun x=>decide (x.1=n))]?:=find_idx _ _;rw[hfi] at hK;refine o_nb n (OwnS.memS hM) fun b3 w1 ho=>?_;rw[m_func];refine c_below ho (R:=fun u=>u=.int .i64 (if l.findIdx (fun x=>decide (x.1=n)) < l.length then ((l.findIdx (fun x=>decide (x.1=n)):Nat):Int) else -1)) ?_ ?_
 ·refine ret_of fun K hK=>S_slices_IndexFunc_foliant_api_Map_foliant_api_Map_ok ?_;unfold S_slices_IndexFunc_foliant_api_Map_foliant_api_Map;have hM1:=ho.hasM 1 rfl;have hcb:(Ent.cells b3 [.int .i64 n] 3).is w1:=ho.at_ 0 rfl;rw[sl_len Tryz.underlying24 (hs.now hM1)];refine loop (fun vs W=>∃i:Nat,vs=[.int .i64 (i:Int)]∧i≤l.length∧(∀m (h:m < l.length),m < i→decide (l[m].1=n)=false)∧Own w1 W []) (fun vs _=>l.length - n0 vs) ⟨0,rfl,by omega,fun m _ h=>by omega,Own.start w1⟩ ?_;rintro vs w2 ⟨i,rfl,hi,hlo,ho⟩ _;simp only[S_slices_IndexFunc_foliant_api_Map_foliant_api_Map_0,gd,rs];have hM2:M.has w2:=Mem.has_below hM1 ho.done;have hcb2:(Ent.cells b3 [.int .i64 n] 3).is w2:=(Ent.cells b3 [.int .i64 n] 3).keep hcb fun k hk=>ho.done.block k ((Ent.cells b3 [.int .i64 n] 3).lt hcb k hk);by_cases hlt:(i:Int) < (l.length:Int)
  case neg=>
   simp only[decide_eq_false hlt,i_f];refine hK _ _ ⟨?_,ho.done⟩;rw[if_neg];intro h;have h1:=hlo _ h (by omega);have h2:=List.findIdx_getElem (w:=h);rw[h1] at h2;cases h2
  simp only[decide_eq_true hlt,i_t];have hi':i < l.length:=by omega
  obtain⟨g,off,hia,hcell,hld⟩:=mp_cells hs hi';rw[do_eq (hia w2),do_eq (hld w2 hM2)];refine c_val find1_plain ?_;show CallX prog 53 #[mpV l[i],.pointer (some ⟨b3,0,none⟩)] w2 _ _;refine c_below ho (R:=fun u=>u=.bool (decide (l[i].1=n))) ?_ ?_
  ·refine ret_of fun K hK=>S_cmap_Find_1_ok ?_;unfold S_cmap_Find_1;refine o_mpb l[i] (Own.start w2) fun b w3 ho=>?_;rw[fa_m0,l_cell nInt5 (ho.cell 0 rfl 0 rfl),l_cell nInt5 (ho.old (cells_cell (T:=3) hcb2 (i:=0) rfl))]
   try simp only[rs]
   exact hK _ _ ⟨rfl,ho.done⟩
  rintro _ w3 rfl ho;by_cases he:l[i].1=n
  ·simp only[decide_eq_true he,i_t];have hix:=findIdx_at (p:=fun x:Cm.Mp=>decide (x.1=n)) hi' hlo (by simp[he]);exact hK _ _ ⟨by rw[hix,if_pos hi'],ho.done⟩
  simp only[decide_eq_false he,i_f]
  try simp only[rs]
  rw[wrap64_id (by omega) (by omega)];refine nextX ⟨i+1,rfl,by omega,fun m hm hmi=>?_,ho⟩ (by simp[n0,RowKit.intOf];omega);rcases Nat.lt_or_ge m i with h|h
  ·exact hlo m hm h
  ·have:m=i:=by omega
   subst this;exact decide_eq_false he
 rintro _ w2 rfl ho;by_cases hix:l.findIdx (fun x=>decide (x.1=n)) < l.length
 ·rw[if_pos hix];rw[List.getElem?_eq_getElem hix] at hK;generalize l.findIdx (fun x=>decide (x.1=n))=i at *;simp only[rs,decide_eq_false (show ¬((i:Int) < 0) by omega),i_f];obtain⟨g,off,hia,hcell,hld⟩:=mp_cells hs hix;rw[do_eq (hia w2),fa_m1,l_cell nStr5 (hcell w2 (ho.hasM 1 rfl)).2];exact hK _ _ M _ 1 ho rfl M.le_refl rfl
 ·rw[if_neg hix];rw[List.getElem?_eq_none (by omega)] at hK;simp only[rs,show decide ((-1:Int) < 0)=true from rfl,i_t];exact hK _ _ M _ 1 ho rfl M.le_refl rfl
end
section
open Eng Go.RowKit
def intsW (l:List Int):List Value:=l.map fun n=>.int .i64 n
theorem intsW_one {l:List Int}:∀x∈intsW l,x.oneCell'=true:=by
 intro x hx;obtain⟨n,-,rfl⟩:=List.mem_map.1 hx;rfl
theorem intsW_get {l:List Int}{i:Nat}(h:i < l.length):(intsW l)[i]?=some (.int .i64 l[i]):=by simp[intsW,h]
theorem elInt:elB prog 3 1 8=true:=by kernel_rfl
section
variable {w:World}{PK:PKT}{K:VWP}{S:Nat→Prop}{w0:World}{L:List Ent}
theorem o_ints1 (n:Int)(ho:OwnS S w0 w L)(k:∀b w',OwnS S w0 w' (.cells b (intsW [n]) 3::L)→K (.slice (some ⟨b,0,none⟩) 1 1) w'):DoX prog (mBuildS 29 1 #[(0,.int .i64 n)]) w PK K:=
 o_new (fun b=>.slice (some ⟨b,0,none⟩) 1 1) (intsW [n]) 3 (fun _=>by kernel_rfl) ho k
theorem o_apInt (i:Nat){v v2:Value}{n m:Nat}{xs news:List Value}{cb:Array Bool}(ho:OwnS S w0 w L)(hi:L[i]?=some (.urow 3 1 v n xs))(hs:Sl w v2 1 m news)(h1:∀u∈news,u.oneCell'=true)(hb:n+m≤100000000000)
  (k:∀v' w',OwnS S w0 w' (L.set i (.urow 3 1 v' (n+m) (xs++news)))→K v' w'):DoX prog (mB .append #[29,29] 29 cb #[v,v2]) w PK K:=
 o_appendU i Tryz.underlying29 elInt (by decide) ho hi hs h1 (by omega) (by omega) k
end
end
section
open Eng Go.RowKit
def ftC (f:Ft)(wv nv mv:Value):List Value:=[.string ⟨f.name.toArray⟩,.bool f.wide,.int .i64 f.first,wv,.int .i64 f.missing,nv,mv]
def ftV (f:Ft)(wv nv mv:Value):Value:=.agg (ftC f wv nv mv).toArray
abbrev ftE (b:Nat)(f:Ft)(wv nv mv:Value):Ent:=.cells b (ftC f wv nv mv) 26
theorem aggFt:aggN prog 26=some 7:=by kernel_rfl
theorem szFt:(Tryz.prog.info? 26).map (·.size)=some 7:=by kernel_rfl
theorem nBool47:notAgg prog 4=true:=by kernel_rfl
theorem nSlI64:notAgg prog 22=true:=by kernel_rfl
theorem nSlMp:notAgg prog 24=true:=by kernel_rfl
structure FtAt (M:Mem) (f:Ft) (wv nv mv:Value):Prop where
 ws:SlA M.A M.w wv 1 f.widths.length (intsW f.widths)
 ns:SlA M.A M.w nv 1 f.names.length (strsV f.names)
 ms:SlA M.A M.w mv 2 f.maps.length (mpsC f.maps)
theorem FtAt.le {M N:Mem}{f:Ft}{wv nv mv:Value}(h:FtAt M f wv nv mv)(hle:M.le N):FtAt N f wv nv mv:=⟨h.ws.le hle,h.ns.le hle,h.ms.le hle⟩
theorem ftC_one {f:Ft}{wv nv mv:Value}(h1:wv.oneCell'=true)(h2:nv.oneCell'=true)(h3:mv.oneCell'=true):∀v∈ftC f wv nv mv,v.oneCell'=true:=by
 intro v hv;simp only[ftC,List.mem_cons,List.not_mem_nil,or_false] at hv;rcases hv with rfl|rfl|rfl|rfl|rfl|rfl|rfl<;>first|rfl|assumption
structure FtOk (f:Ft):Prop where
 name:f.name.length≤100000000
 wl:f.widths.length≤100000000
 nl:f.names.length≤100000000
 nms:∀s∈f.names,s.length≤100000000
 ml:f.maps.length≤100000000
 ms:∀x∈f.maps,x.2.length≤100000000
 first:-9223372036854775808≤f.first∧f.first≤9223372036854775807
section
variable {w:World}{PK:PKT}{K:VWP}{S:Nat→Prop}{w0:World}{L:List Ent}
theorem o_ftb (f:Ft){M:Mem}{wv nv mv:Value}(h:FtAt M f wv nv mv)(ho:OwnS S w0 w L)(k:∀b w',OwnS S w0 w' (ftE b f wv nv mv::L)→K (.pointer (some ⟨b,0,none⟩)) w'):DoX prog (mBox 26 (ftV f wv nv mv)) w PK K:=by
 obtain⟨a1,c1,rfl,_⟩:=h.ws.form;obtain⟨a2,c2,rfl,_⟩:=h.ns.form;obtain⟨a3,c3,rfl,_⟩:=h.ms.form;exact o_new (fun b=>.pointer (some ⟨b,0,none⟩)) (ftC f _ _ _) 26 (fun _=>by kernel_rfl) ho k
theorem fa_f0 {b off:Nat}:DoX prog (mFA 26 (.pointer (some ⟨b,off,none⟩)) 0) w PK K=K (.pointer (some ⟨b,off+0,none⟩)) w:=f_addr (o:=0) (by kernel_rfl)
theorem fa_f1 {b off:Nat}:DoX prog (mFA 26 (.pointer (some ⟨b,off,none⟩)) 1) w PK K=K (.pointer (some ⟨b,off+1,none⟩)) w:=f_addr (o:=1) (by kernel_rfl)
theorem fa_f2 {b off:Nat}:DoX prog (mFA 26 (.pointer (some ⟨b,off,none⟩)) 2) w PK K=K (.pointer (some ⟨b,off+2,none⟩)) w:=f_addr (o:=2) (by kernel_rfl)
theorem fa_f3 {b off:Nat}:DoX prog (mFA 26 (.pointer (some ⟨b,off,none⟩)) 3) w PK K=K (.pointer (some ⟨b,off+3,none⟩)) w:=f_addr (o:=3) (by kernel_rfl)
theorem fa_f4 {b off:Nat}:DoX prog (mFA 26 (.pointer (some ⟨b,off,none⟩)) 4) w PK K=K (.pointer (some ⟨b,off+4,none⟩)) w:=f_addr (o:=4) (by kernel_rfl)
theorem fa_f5 {b off:Nat}:DoX prog (mFA 26 (.pointer (some ⟨b,off,none⟩)) 5) w PK K=K (.pointer (some ⟨b,off+5,none⟩)) w:=f_addr (o:=5) (by kernel_rfl)
theorem fa_f6 {b off:Nat}:DoX prog (mFA 26 (.pointer (some ⟨b,off,none⟩)) 6) w PK K=K (.pointer (some ⟨b,off+6,none⟩)) w:=f_addr (o:=6) (by kernel_rfl)
theorem ft_name (ho:OwnS S w0 w L)(i:Nat){b:Nat}{f:Ft}{wv nv mv:Value}(hi:L[i]?=some (ftE b f wv nv mv)):DoX prog (mLoad 9 (.pointer (some ⟨b,0+0,none⟩))) w PK K=K (.string ⟨f.name.toArray⟩) w:=l_cell nStr5 (ho.cell i hi 0 rfl)
theorem ft_wide (ho:OwnS S w0 w L)(i:Nat){b:Nat}{f:Ft}{wv nv mv:Value}(hi:L[i]?=some (ftE b f wv nv mv)):DoX prog (mLoad 4 (.pointer (some ⟨b,0+1,none⟩))) w PK K=K (.bool f.wide) w:=l_cell nBool47 (ho.cell i hi 1 rfl)
theorem ft_first (ho:OwnS S w0 w L)(i:Nat){b:Nat}{f:Ft}{wv nv mv:Value}(hi:L[i]?=some (ftE b f wv nv mv)):DoX prog (mLoad 3 (.pointer (some ⟨b,0+2,none⟩))) w PK K=K (.int .i64 f.first) w:=l_cell nInt5 (ho.cell i hi 2 rfl)
theorem ft_ws (ho:OwnS S w0 w L)(i:Nat){b:Nat}{f:Ft}{wv nv mv:Value}(hi:L[i]?=some (ftE b f wv nv mv)):DoX prog (mLoad 22 (.pointer (some ⟨b,0+3,none⟩))) w PK K=K (wv) w:=l_cell nSlI64 (ho.cell i hi 3 rfl)
theorem ft_miss (ho:OwnS S w0 w L)(i:Nat){b:Nat}{f:Ft}{wv nv mv:Value}(hi:L[i]?=some (ftE b f wv nv mv)):DoX prog (mLoad 2 (.pointer (some ⟨b,0+4,none⟩))) w PK K=K (.int .i64 f.missing) w:=l_cell nI65 (ho.cell i hi 4 rfl)
theorem ft_nms (ho:OwnS S w0 w L)(i:Nat){b:Nat}{f:Ft}{wv nv mv:Value}(hi:L[i]?=some (ftE b f wv nv mv)):DoX prog (mLoad 23 (.pointer (some ⟨b,0+5,none⟩))) w PK K=K (nv) w:=l_cell nSlS47 (ho.cell i hi 5 rfl)
theorem ft_mps (ho:OwnS S w0 w L)(i:Nat){b:Nat}{f:Ft}{wv nv mv:Value}(hi:L[i]?=some (ftE b f wv nv mv)):DoX prog (mLoad 24 (.pointer (some ⟨b,0+6,none⟩))) w PK K=K (mv) w:=l_cell nSlMp (ho.cell i hi 6 rfl)
end
theorem named47_ret (s:List UInt8)(n:Nat)(w:World)(hn:n≤1000):Ret prog 56 #[.string ⟨s.toArray⟩,.int .i64 (n:Int)] w (fun v w'=>v=.bool (Fo.named s n)∧w=w'):=by
 refine ret_of fun K hK=>S_font_named_ok ?_;unfold S_font_named;unfold Fo.named at hK;rw[s_len Tryz.underlying9]
 try simp only[rs]
 by_cases h1:(n:Int)≤(s.length:Int)
 case neg=>
  rw[decide_eq_false (show ¬n≤s.length by omega)] at hK;simp only[decide_eq_false h1,rs,g_un];exact hK _ _ ⟨rfl,rfl⟩
 rw[decide_eq_true (show n≤s.length by omega)] at hK;simp only[decide_eq_true h1,rs];rw[s_len Tryz.underlying9]
 try simp only[rs]
 by_cases h2:(s.length:Int)≤127
 case neg=>
  rw[decide_eq_false (show ¬s.length≤127 by omega)] at hK;simp only[decide_eq_false h2,rs,g_un];exact hK _ _ ⟨rfl,rfl⟩
 rw[decide_eq_true (show s.length≤127 by omega)] at hK;simp only[decide_eq_true h2,rs];have hi:∀{K':VWP},K' (.int .i64 (Lib.indexByte s 0)) w→CallX prog 91 #[.string ⟨s.toArray⟩,.int .u8 0] w (pk K) K':=fun hk=>c_eq (indexByte_ret s 0 w) hk;refine hi ?_
 try simp only[rs]
 refine hK _ _ ⟨?_,rfl⟩
 congr 1
 rw[Bool.true_and,Bool.true_and];have h:=Oc.indexByte_nonneg 0 s;by_cases hx:Lib.indexByte s 0 < 0
 ·rw[decide_eq_false (by omega)] at h;rw[decide_eq_true hx];refine (List.all_eq_true.2 fun c hc=>?_).symm;rw[decide_eq_true_eq];intro h0;subst h0;have:s.contains (0:UInt8)=true:=by simpa using hc
  simp_all
 ·rw[decide_eq_true (by omega)] at h;rw[decide_eq_false hx];refine (List.all_eq_false.2 ⟨0,?_,by simp⟩).symm;have:s.contains (0:UInt8)=true:=by simp_all
  simpa using this
theorem bounded47_ret (n:Int)(w:World):Ret prog 58 #[.int .i64 n,.int .i64 100000] w (fun v w'=>v=.bool (Fo.wid n)∧w=w'):=by
 refine ret_of fun K hK=>S_font_bounded_int64_ok ?_;unfold S_font_bounded_int64;unfold Fo.wid at hK
 try simp only[rs]
 by_cases h1:0≤n
 ·rw[decide_eq_true h1] at hK;simp only[decide_eq_true h1,rs];exact hK _ _ ⟨by rw[Bool.true_and],rfl⟩
 ·rw[decide_eq_false h1] at hK;simp only[decide_eq_false h1,rs,g_un];exact hK _ _ ⟨rfl,rfl⟩
theorem codes1_ret (b:Bool)(w:World):Ret prog 57 #[.bool b] w (fun v w'=>v=.int .i64 (Fo.room b)∧w=w'):=by
 refine ret_of fun K hK=>S_font_codes_ok ?_;unfold S_font_codes;cases b
 ·simp only[i_f];exact hK _ _ ⟨rfl,rfl⟩
 ·simp only[i_t];exact hK _ _ ⟨rfl,rfl⟩
theorem ret_sameC {f:Nat}{args:Array Value}{v:Value}{C:World→Prop}{w:World}(h:Ret prog f args w (fun v' w'=>v'=v∧w=w'))(hC:C w):Ret prog f args w (fun v' w'=>v'=v∧C w'):=
 h.mono fun v' w' ⟨a,b⟩=>⟨a,b▸hC⟩
end
section
open Eng
def S_foliantref05_Texts_0 (t0 t1 t12 t13:Value)(w:World)(N1:List Value→World→Prop)(K:Ending→World→Prop):Prop:=
 DoX prog (mBin .lss 3 t13 t12) w (pk K) fun t14 w=>
 IfX t14 (QuietX w (fun C2=>
 QDo prog C2 (mIA 23 t0 t13) fun t18=>
 QDo prog C2 (mLoad 9 t18) fun t19=>
 QDo prog C2 (mIA 23 t1 t13) fun t22=>
 QDo prog C2 (mLoad 9 t22) fun t23=>
 QDo prog C2 (mEq .neq 9 (.tmp 19) (.tmp 23) t19 t23) fun t24=>
 ∀w,C2 w →
 IfX t24 (K (.returned (.bool false)) w) (DoX prog (mBin .add 3 t13 (.int .i64 1)) w (pk K) fun t25 w=>
 N1 [t25] w))) (K (.returned (.bool true)) w)
def S_foliantref05_Texts (t0 t1:Value)(w:World)(K:Ending→World→Prop):Prop:=
 DoX prog (mB .len #[23] 3 #[false] #[t0]) w (pk K) fun t7 w=>
 DoX prog (mB .len #[23] 3 #[false] #[t1]) w (pk K) fun t9 w=>
 DoX prog (mEq .neq 3 (.tmp 7) (.tmp 9) t7 t9) w (pk K) fun t10 w=>
 IfX t10 (K (.returned (.bool false)) w) (DoX prog (mB .len #[23] 3 #[false] #[t0]) w (pk K) fun t12 w=>
 LoopX [(.int .i64 0)] w (fun vs1 w N1=>∀_:Sg,S_foliantref05_Texts_0 t0 t1 t12 (vs1.getD 0 undef) w N1 K))
theorem S_foliantref05_Texts_eq (t0 t1:Value)(w:World)(K:Ending→World→Prop):wpX prog 26 [] [(4,[13])] none (bodyOf Tryz.f18) (topQ prog [.tmp 4] K) (startX [t0,t1]) [] w=S_foliantref05_Texts t0 t1 w K:=by kernel_rfl
theorem S_foliantref05_Texts_ok {t0 t1:Value}{w:World}{K:Ending→World→Prop}(h:S_foliantref05_Texts t0 t1 w K):Calls prog 18 #[t0,t1] w K:=
 calls_of_wpX Tryz.func18 rfl rfl rfl rfl (Eq.mpr (S_foliantref05_Texts_eq t0 t1 w K) h)
end
section
open Eng Go.RowKit
theorem nStrT:notAgg prog 9=true:=by kernel_rfl
theorem rtexts_ret (va vb:Value)(la lb:List (List UInt8))(w:World)(ha:Sl w va 1 la.length (strsV la))(hb:Sl w vb 1 lb.length (strsV lb))(hl:la.length≤1099511627776) :
  Ret prog 18 #[va,vb] w (fun r w'=>r=.bool (decide (la=lb))∧Below w.heap.size w w'):=by
 refine ret_of fun K hK=>S_foliantref05_Texts_ok ?_;unfold S_foliantref05_Texts;rw[sl_len Tryz.underlying23 ha,sl_len Tryz.underlying23 hb];simp only[rs];by_cases hlen:(la.length:Int)≠(lb.length:Int)
 ·simp only[decide_eq_true hlen,i_t];have hne:la≠lb:=fun e=>hlen (by rw[e]);exact hK _ _ ⟨by rw[decide_eq_false hne],(Own.start w).done⟩
 have hle:la.length=lb.length:=by omega
 simp only[decide_eq_false hlen,i_f,sl_len Tryz.underlying23 ha];refine loop (fun vs w'=>∃(i:Nat),vs=[.int .i64 i]∧i≤la.length∧la.take i=lb.take i∧Own w w' []) (fun vs _=>la.length - n0 vs) ⟨0,rfl,by omega,by simp,Own.start w⟩ ?_;rintro vs w2 ⟨i,rfl,hi,he,ho⟩ _;simp only[S_foliantref05_Texts_0,gd,rs];by_cases hlt:(i:Int) < (la.length:Int)
 ·have h1:i < la.length:=by omega
  have h2:i < lb.length:=by omega
  simp only[hlt,decide_true,rs];obtain⟨ba,oa,ca,rfl,hca⟩:=sl_open ha (by omega);obtain⟨bb,ob,cb,rfl,hcb⟩:=sl_open hb (by omega);refine quiet (q_do _ (fun _=>run_ia Tryz.underlying23 (show _=some 1 by kernel_rfl) (by omega) (by omega)) ?_);refine q_at (.string ⟨(la[i]).toArray⟩) (fun wc hw=>run_load_cell nStrT ((ho.grow hw).old ?_)) ?_
  ·rw[Int.toNat_natCast,Nat.mul_one];exact hca i _ (strsV_get h1)
  refine q_do _ (fun _=>run_ia Tryz.underlying23 (show _=some 1 by kernel_rfl) (by omega) (by omega)) ?_;refine q_at (.string ⟨(lb[i]).toArray⟩) (fun wc hw=>run_load_cell nStrT ((ho.grow hw).old ?_)) ?_
  ·rw[Int.toNat_natCast,Nat.mul_one];exact hcb i _ (strsV_get h2)
  refine q_sne ?_;intro w3 hw;have ho:=ho.grow hw;by_cases hq:la[i]=lb[i]
  ·simp only[hq,ne_eq,not_true,decide_false,i_f,rs];rw[wrap64_id (by omega) (by omega)];refine nextX ⟨i+1,rfl,by omega,?_,ho⟩ (by simp[n0,RowKit.intOf];omega);rw[List.take_succ_eq_append_getElem h1,List.take_succ_eq_append_getElem h2,he,hq]
  ·simp only[hq,ne_eq,not_false_eq_true,decide_true,i_t];have hne:la≠lb:=fun e=>hq (by subst e;rfl);exact hK _ _ ⟨by rw[decide_eq_false hne],ho.done⟩
 ·simp only[hlt,decide_false,rs,g_un];have hab:la=lb:=by
   rw[List.take_of_length_le (by omega),List.take_of_length_le (by omega)] at he;exact he
  exact hK _ _ ⟨by rw[decide_eq_true hab],ho.done⟩
end
section
open Eng Go.RowKit
theorem i64_at47 {M:Mem}{v:Value}{l:List Int}(hs:SlA M.A M.w v 1 l.length (intsW l)){i:Nat}(hi:i < l.length) :
  ∃p,(∀W,(mIA 22 v (.int .i64 (i:Int))).run prog W=.ok (.value (.pointer (some p))) W)∧∀W,M.has W→(mLoad 2 (.pointer (some p))).run prog W=.ok (.value (.int .i64 l[i])) W:=by
 obtain⟨b,off,cap,rfl,_⟩:=sl_open hs.1 (by omega);refine⟨⟨b,off+i,none⟩,fun W=>?_,fun W hk=>?_⟩
 ·have:=run_ia (P:=prog) (T:=22) (b:=b) (off:=off) (cap:=cap) (n:=l.length) (k:=.i64) (i:=(i:Int)) (w:=W) Tryz.underlying22 (show _=some 1 by kernel_rfl) (by omega) (by omega);rw[Int.toNat_natCast,Nat.mul_one] at this;exact this
 ·obtain⟨b',off',cap',he,hc⟩:=sl_open (hs.now hk) (by omega);cases he;exact run_load_cell nI65 (hc i _ (intsW_get hi))
theorem rmaps47_nil (va vb:Value)(M:Mem)(w:World)(hM:M.has w)(ha:SlA M.A M.w va 2 0 [])(hb:SlA M.A M.w vb 2 0 []):Ret prog 51 #[va,vb] w (fun v w'=>v=.bool true∧w=w'):=by
 refine ret_of fun K hK=>S_foliantref47_maps_ok ?_;unfold S_foliantref47_maps;rw[sl_len Tryz.underlying24 (ha.now hM),sl_len Tryz.underlying24 (hb.now hM)];simp only[rs,ne_eq,not_true_eq_false,decide_false,i_f];refine loop (fun vs W=>vs=[.int .i64 0]∧W=w) (fun vs _=>0) ⟨rfl,rfl⟩ ?_;rintro vs _ ⟨rfl,rfl⟩ _;simp only[S_foliantref47_maps_0,gd];rw[sl_len Tryz.underlying24 (ha.now hM)]
 try simp only[rs]
 rw[decide_eq_false (show ¬(0:Int) < ((0:Nat):Int) by decide)];simp only[rs,g_un,i_f];exact hK _ _ ⟨rfl,rfl⟩
theorem rsame47_ret (f:Ft)(wa na ma wb nb mb:Value)(M:Mem)(w:World)(hm:f.maps=[])(hl:f.widths.length≤100000000)(hnl:f.names.length≤100000000)(hM:M.has w)(ha:FtAt M f wa na ma)(hb:FtAt M f wb nb mb) :
  Ret prog 25 #[ftV f wa na ma,ftV f wb nb mb] w (fun v w'=>v=.bool true∧Below w.heap.size w w'):=by
 refine ret_of fun K hK=>S_foliantref47_Same_ok ?_;unfold S_foliantref47_Same;refine o_ftb f ha (OwnS.memS hM) fun b2 w1 ho=>?_;refine o_ftb f hb ho fun b3 w2 ho=>?_;have ho:OwnS M.A w w2 [ftE b3 f wb nb mb,ftE b2 f wa na ma,.mem M]:=ho;rw[fa_f3,ft_ws ho 1 rfl,sl_len Tryz.underlying22 (ha.ws.now (ho.hasM 2 rfl)),fa_f3,ft_ws ho 0 rfl,sl_len Tryz.underlying22 (hb.ws.now (ho.hasM 2 rfl))];simp only[rs,ne_eq,not_true_eq_false,decide_false,i_f];refine loop (fun vs W=>∃i:Nat,vs=[.int .i64 (i:Int)]∧i≤f.widths.length∧OwnS M.A w W [ftE b3 f wb nb mb,ftE b2 f wa na ma,.mem M]) (fun vs _=>f.widths.length - n0 vs) ⟨0,rfl,by omega,ho⟩ ?_;clear ho;rintro vs w3 ⟨i,rfl,hi,ho⟩ _;simp only[S_foliantref47_Same_0,gd];rw[fa_f3,ft_ws ho 1 rfl,sl_len Tryz.underlying22 (ha.ws.now (ho.hasM 2 rfl))]
 try simp only[rs]
 by_cases hlt:(i:Int) < (f.widths.length:Int)
 ·simp only[decide_eq_true hlt,rs];rw[fa_f3,ft_ws ho 0 rfl,sl_len Tryz.underlying22 (hb.ws.now (ho.hasM 2 rfl))];simp only[rs,decide_eq_true hlt,i_t];have hi':i < f.widths.length:=by omega
  obtain⟨p,ip,lp⟩:=i64_at47 ha.ws hi';obtain⟨q,iq,lq⟩:=i64_at47 hb.ws hi';have c1:∀{W},Below w3.heap.size w3 W→(mLoad 22 (.pointer (some ⟨b2,0+3,none⟩))).run prog W=.ok (.value wa) W:=fun h=>run_load_cell nSlI64 ((ho.grow h).cell 1 rfl 3 rfl);have c2:∀{W},Below w3.heap.size w3 W→(mLoad 22 (.pointer (some ⟨b3,0+3,none⟩))).run prog W=.ok (.value wb) W:=fun h=>run_load_cell nSlI64 ((ho.grow h).cell 0 rfl 3 rfl);refine quiet ?_;refine q_do _ (fun _=>run_fa (o:=3) (by kernel_rfl)) (q_at _ (fun W hg=>c1 hg) (q_do _ ip (q_at _ (fun W hg=>lp W ((ho.grow hg).hasM 2 rfl)) ?_)));refine q_do _ (fun _=>run_fa (o:=3) (by kernel_rfl)) (q_at _ (fun W hg=>c2 hg) (q_do _ iq (q_at _ (fun W hg=>lq W ((ho.grow hg).hasM 2 rfl)) (q_ne ?_))));intro w4 hg;have ho:=ho.grow hg;simp only[ne_eq,not_true_eq_false,decide_false,i_f]
  try simp only[rs]
  rw[wrap64_id (by omega) (by omega)];exact nextX ⟨i+1,rfl,by omega,ho⟩ (by simp[n0,RowKit.intOf];omega)
 simp only[decide_eq_false hlt,rs,g_un,i_f];rw[fa_f0,ft_name ho 1 rfl,fa_f0,ft_name ho 0 rfl,e_str];simp only[rs,decide_true];rw[fa_f1,ft_wide ho 1 rfl,fa_f1,ft_wide ho 0 rfl,e_bool Tryz.underlying4];simp only[rs,beq_self_eq_true];rw[fa_f2,ft_first ho 1 rfl,fa_f2,ft_first ho 0 rfl];simp only[rs,decide_true];rw[fa_f4,ft_miss ho 1 rfl,fa_f4,ft_miss ho 0 rfl];simp only[rs,decide_true];rw[fa_f5,ft_nms ho 1 rfl,fa_f5,ft_nms ho 0 rfl];refine c_below ho (R:=fun v=>v=.bool true) ((rtexts_ret na nb f.names f.names w3 (ha.ns.now (ho.hasM 2 rfl)) (hb.ns.now (ho.hasM 2 rfl)) (by omega)).mono fun v w' h=>⟨by rw[h.1];simp,h.2⟩) ?_;rintro _ w5 rfl ho
 try simp only[rs]
 rw[fa_f6,ft_mps ho 1 rfl,fa_f6,ft_mps ho 0 rfl];have hma:=ha.ms;have hmb:=hb.ms;rw[hm] at hma hmb;refine c_ret (rmaps47_nil ma mb M w5 (ho.hasM 2 rfl) hma hmb) ?_;rintro _ _ ⟨rfl,rfl⟩
 try simp only[rs]
 have ho:OwnS M.A w w5 ([ftE b3 f wb nb mb,ftE b2 f wa na ma]++([.mem M]++[])):=ho;exact hK _ _ ⟨rfl,(ho.front.toGives 0 rfl M.le_refl hM).below⟩
end
section
open Eng
def S_font_need (t0:Value)(w:World)(K:Ending→World→Prop):Prop:=
 DoX prog (mEq .neq 30 (.tmp 2) (.const (.int .i64 0)) t0 (.int .i64 0)) w (pk K) fun t3 w=>
 IfX t3 (DoX prog (mBuild 73 #[(0,t0)]) w (pk K) fun t5 w=>
 DoX prog (mIface 73 t5) w (pk K) fun t6 w=>
 DoX prog (mPanic t6) w (pk K) fun _ w=>
 K (.returned (.tuple #[])) w) (K (.returned (.tuple #[])) w)
theorem S_font_need_eq (t0:Value)(w:World)(K:Ending→World→Prop):wpX prog 7 [] [] none (bodyOf Tryz.f42) (topQ prog [] K) (startX [t0]) [] w=S_font_need t0 w K:=by kernel_rfl
theorem S_font_need_ok {t0:Value}{w:World}{K:Ending→World→Prop}(h:S_font_need t0 w K):Calls prog 42 #[t0] w K:=
 calls_of_wpX Tryz.func42 rfl rfl rfl rfl (Eq.mpr (S_font_need_eq t0 w K) h)
def S_font_must (t0:Value)(w:World)(K:Ending→World→Prop):Prop:=
 DoX prog (mUn .not t0) w (pk K) fun t3 w=>
 IfX t3 (CallX prog 42 #[(.int .i64 27)] w (pk K) fun t4 w=>
 K (.returned (.tuple #[])) w) (K (.returned (.tuple #[])) w)
theorem S_font_must_eq (t0:Value)(w:World)(K:Ending→World→Prop):wpX prog 5 [] [] none (bodyOf Tryz.f86) (topQ prog [] K) (startX [t0]) [] w=S_font_must t0 w K:=by kernel_rfl
theorem S_font_must_ok {t0:Value}{w:World}{K:Ending→World→Prop}(h:S_font_must t0 w K):Calls prog 86 #[t0] w K:=
 calls_of_wpX Tryz.func86 rfl rfl rfl rfl (Eq.mpr (S_font_must_eq t0 w K) h)
def S_font_reader_at (t0 t1:Value)(w:World)(K:Ending→World→Prop):Prop:=
 DoX prog (mBox 93 t0) w (pk K) fun t2 w=>
 DoX prog (mAlloc 48) w (pk K) fun t4 w=>
 DoX prog (mFA 93 t2 0) w (pk K) fun t5 w=>
 DoX prog (mLoad 50 t5) w (pk K) fun t6 w=>
 DoX prog (mFA 93 t2 1) w (pk K) fun t7 w=>
 DoX prog (mLoad 48 t7) w (pk K) fun t8 w=>
 DoX prog (mBuildS 23 1 #[(0,t1)]) w (pk K) fun t10 w=>
 CallX prog 116 #[t6,t8,t10] w (pk K) fun t11 w=>
 DoX prog (mStore 48 t4 t11) w (pk K) fun _ w=>
 RetX prog [.cell t4 48] w K
theorem S_font_reader_at_eq (t0 t1:Value)(w:World)(K:Ending→World→Prop):wpX prog 12 [] [] none (bodyOf Tryz.f85) (topQ prog [.cell 4 48] K) (startX [t0,t1]) [] w=S_font_reader_at t0 t1 w K:=by kernel_rfl
theorem S_font_reader_at_ok {t0 t1:Value}{w:World}{K:Ending→World→Prop}(h:S_font_reader_at t0 t1 w K):Calls prog 85 #[t0,t1] w K:=
 calls_of_wpX Tryz.func85 rfl rfl rfl rfl (Eq.mpr (S_font_reader_at_eq t0 t1 w K) h)
def S_font_reader_kids_0 (t2 t5 t16 t17 t18:Value)(w:World)(N1:List Value→World→Prop)(K:Ending→World→Prop):Prop:=
 DoX prog (mBin .lss 3 t18 t17) w (pk K) fun t19 w=>
 IfX t19 (DoX prog (mIA 46 t16 t18) w (pk K) fun t20 w=>
 DoX prog (mLoad 48 t20) w (pk K) fun t21 w=>
 DoX prog (mAlloc 48) w (pk K) fun t7 w=>
 DoX prog (mStore 48 t7 t21) w (pk K) fun _ w=>
 DoX prog (mFA 93 t2 0) w (pk K) fun t23 w=>
 DoX prog (mLoad 50 t23) w (pk K) fun t24 w=>
 DoX prog (mLoad 48 t7) w (pk K) fun t25 w=>
 CallX prog 49 #[t24,t25] w (pk K) fun t26 w=>
 DoX prog (mBuildS 46 1 #[(0,t26)]) w (pk K) fun t27 w=>
 DoX prog (mB .append #[46,46] 46 #[false,false] #[t5,t27]) w (pk K) fun t28 w=>
 DoX prog (mBin .add 3 t18 (.int .i64 1)) w (pk K) fun t29 w=>
 N1 [t28,t29] w) (K (.returned t5) w)
def S_font_reader_kids (t0 t1:Value)(w:World)(K:Ending→World→Prop):Prop:=
 DoX prog (mBox 93 t0) w (pk K) fun t2 w=>
 DoX prog (mBox 48 t1) w (pk K) fun t3 w=>
 DoX prog (mFA 48 t3 0) w (pk K) fun t8 w=>
 DoX prog (mLoad 3 t8) w (pk K) fun t9 w=>
 DoX prog (mEq .eql 3 (.tmp 9) (.const (.int .i64 0)) t9 (.int .i64 0)) w (pk K) fun t10 w=>
 IfX t10 (K (.returned (.slice none 0 0)) w) (DoX prog (mFA 48 t3 0) w (pk K) fun t11 w=>
 DoX prog (mLoad 3 t11) w (pk K) fun t12 w=>
 DoX prog (mEq .eql 3 (.tmp 12) (.const (.int .i64 6)) t12 (.int .i64 6)) w (pk K) fun t13 w=>
 CallX prog 86 #[t13] w (pk K) fun t14 w=>
 DoX prog (mFA 48 t3 5) w (pk K) fun t15 w=>
 DoX prog (mLoad 46 t15) w (pk K) fun t16 w=>
 DoX prog (mB .len #[46] 3 #[false] #[t16]) w (pk K) fun t17 w=>
 LoopX [(.slice none 0 0),(.int .i64 0)] w (fun vs1 w N1=>∀_:Sg,S_font_reader_kids_0 t2 (vs1.getD 0 undef) t16 t17 (vs1.getD 1 undef) w N1 K))
theorem S_font_reader_kids_eq (t0 t1:Value)(w:World)(K:Ending→World→Prop):wpX prog 31 [] [(6,[5,18])] none (bodyOf Tryz.f118) (topQ prog [.tmp 4] K) (startX [t0,t1]) [] w=S_font_reader_kids t0 t1 w K:=by kernel_rfl
theorem S_font_reader_kids_ok {t0 t1:Value}{w:World}{K:Ending→World→Prop}(h:S_font_reader_kids t0 t1 w K):Calls prog 118 #[t0,t1] w K:=
 calls_of_wpX Tryz.func118 rfl rfl rfl rfl (Eq.mpr (S_font_reader_kids_eq t0 t1 w K) h)
def S_font_number_int (t0 t1:Value)(w:World)(K:Ending→World→Prop):Prop:=
 DoX prog (mBox 48 t0) w (pk K) fun t2 w=>
 DoX prog (mFA 48 t2 0) w (pk K) fun t5 w=>
 DoX prog (mLoad 3 t5) w (pk K) fun t6 w=>
 DoX prog (mEq .eql 3 (.tmp 6) (.const (.int .i64 2)) t6 (.int .i64 2)) w (pk K) fun t7 w=>
 GDo t7 true (fun E=>DoX prog (mFA 48 t2 1) w (pk K) E) w fun t9 w=>
 GDo t7 true (fun E=>DoX prog (mLoad 2 t9) w (pk K) E) w fun t10 w=>
 GDo t7 true (fun E=>DoX prog (mBin .geq 2 t10 (.int .i64 0)) w (pk K) E) w fun t11 w=>
 DoX prog (mPick t7 t11 (.bool false)) w (pk K) fun t12 w=>
 GDo t12 true (fun E=>DoX prog (mFA 48 t2 1) w (pk K) E) w fun t14 w=>
 GDo t12 true (fun E=>DoX prog (mLoad 2 t14) w (pk K) E) w fun t15 w=>
 GDo t12 true (fun E=>E t1 w) w fun t16 w=>
 GDo t12 true (fun E=>DoX prog (mBin .leq 2 t15 t16) w (pk K) E) w fun t17 w=>
 DoX prog (mPick t12 t17 (.bool false)) w (pk K) fun t18 w=>
 CallX prog 86 #[t18] w (pk K) fun t19 w=>
 DoX prog (mFA 48 t2 1) w (pk K) fun t20 w=>
 DoX prog (mLoad 2 t20) w (pk K) fun t21 w=>
 K (.returned t21) w
theorem S_font_number_int_eq (t0 t1:Value)(w:World)(K:Ending→World→Prop):wpX prog 22 [] [] none (bodyOf Tryz.f121) (topQ prog [.tmp 4] K) (startX [t0,t1]) [] w=S_font_number_int t0 t1 w K:=by kernel_rfl
theorem S_font_number_int_ok {t0 t1:Value}{w:World}{K:Ending→World→Prop}(h:S_font_number_int t0 t1 w K):Calls prog 121 #[t0,t1] w K:=
 calls_of_wpX Tryz.func121 rfl rfl rfl rfl (Eq.mpr (S_font_number_int_eq t0 t1 w K) h)
def S_font_number_int64 (t0 t1:Value)(w:World)(K:Ending→World→Prop):Prop:=
 DoX prog (mBox 48 t0) w (pk K) fun t2 w=>
 DoX prog (mFA 48 t2 0) w (pk K) fun t5 w=>
 DoX prog (mLoad 3 t5) w (pk K) fun t6 w=>
 DoX prog (mEq .eql 3 (.tmp 6) (.const (.int .i64 2)) t6 (.int .i64 2)) w (pk K) fun t7 w=>
 GDo t7 true (fun E=>DoX prog (mFA 48 t2 1) w (pk K) E) w fun t9 w=>
 GDo t7 true (fun E=>DoX prog (mLoad 2 t9) w (pk K) E) w fun t10 w=>
 GDo t7 true (fun E=>DoX prog (mBin .geq 2 t10 (.int .i64 0)) w (pk K) E) w fun t11 w=>
 DoX prog (mPick t7 t11 (.bool false)) w (pk K) fun t12 w=>
 GDo t12 true (fun E=>DoX prog (mFA 48 t2 1) w (pk K) E) w fun t14 w=>
 GDo t12 true (fun E=>DoX prog (mLoad 2 t14) w (pk K) E) w fun t15 w=>
 GDo t12 true (fun E=>E t1 w) w fun t16 w=>
 GDo t12 true (fun E=>DoX prog (mBin .leq 2 t15 t16) w (pk K) E) w fun t17 w=>
 DoX prog (mPick t12 t17 (.bool false)) w (pk K) fun t18 w=>
 CallX prog 86 #[t18] w (pk K) fun t19 w=>
 DoX prog (mFA 48 t2 1) w (pk K) fun t20 w=>
 DoX prog (mLoad 2 t20) w (pk K) fun t21 w=>
 K (.returned t21) w
theorem S_font_number_int64_eq (t0 t1:Value)(w:World)(K:Ending→World→Prop):wpX prog 22 [] [] none (bodyOf Tryz.f119) (topQ prog [.tmp 4] K) (startX [t0,t1]) [] w=S_font_number_int64 t0 t1 w K:=by kernel_rfl
theorem S_font_number_int64_ok {t0 t1:Value}{w:World}{K:Ending→World→Prop}(h:S_font_number_int64 t0 t1 w K):Calls prog 119 #[t0,t1] w K:=
 calls_of_wpX Tryz.func119 rfl rfl rfl rfl (Eq.mpr (S_font_number_int64_eq t0 t1 w K) h)
def S_font_or_int (t0 t1 t2:Value)(w:World)(K:Ending→World→Prop):Prop:=
 DoX prog (mBox 48 t0) w (pk K) fun t3 w=>
 DoX prog (mFA 48 t3 0) w (pk K) fun t7 w=>
 DoX prog (mLoad 3 t7) w (pk K) fun t8 w=>
 DoX prog (mEq .eql 3 (.tmp 8) (.const (.int .i64 0)) t8 (.int .i64 0)) w (pk K) fun t9 w=>
 IfX t9 (K (.returned t2) w) (DoX prog (mLoad 48 t3) w (pk K) fun t11 w=>
 CallX prog 121 #[t11,t1] w (pk K) fun t13 w=>
 K (.returned t13) w)
theorem S_font_or_int_eq (t0 t1 t2:Value)(w:World)(K:Ending→World→Prop):wpX prog 14 [] [] none (bodyOf Tryz.f117) (topQ prog [.tmp 6] K) (startX [t0,t1,t2]) [] w=S_font_or_int t0 t1 t2 w K:=by kernel_rfl
theorem S_font_or_int_ok {t0 t1 t2:Value}{w:World}{K:Ending→World→Prop}(h:S_font_or_int t0 t1 t2 w K):Calls prog 117 #[t0,t1,t2] w K:=
 calls_of_wpX Tryz.func117 rfl rfl rfl rfl (Eq.mpr (S_font_or_int_eq t0 t1 t2 w K) h)
def S_font_or_int64 (t0 t1 t2:Value)(w:World)(K:Ending→World→Prop):Prop:=
 DoX prog (mBox 48 t0) w (pk K) fun t3 w=>
 DoX prog (mFA 48 t3 0) w (pk K) fun t7 w=>
 DoX prog (mLoad 3 t7) w (pk K) fun t8 w=>
 DoX prog (mEq .eql 3 (.tmp 8) (.const (.int .i64 0)) t8 (.int .i64 0)) w (pk K) fun t9 w=>
 IfX t9 (K (.returned t2) w) (DoX prog (mLoad 48 t3) w (pk K) fun t11 w=>
 CallX prog 119 #[t11,t1] w (pk K) fun t13 w=>
 K (.returned t13) w)
theorem S_font_or_int64_eq (t0 t1 t2:Value)(w:World)(K:Ending→World→Prop):wpX prog 14 [] [] none (bodyOf Tryz.f120) (topQ prog [.tmp 6] K) (startX [t0,t1,t2]) [] w=S_font_or_int64 t0 t1 t2 w K:=by kernel_rfl
theorem S_font_or_int64_ok {t0 t1 t2:Value}{w:World}{K:Ending→World→Prop}(h:S_font_or_int64 t0 t1 t2 w K):Calls prog 120 #[t0,t1,t2] w K:=
 calls_of_wpX Tryz.func120 rfl rfl rfl rfl (Eq.mpr (S_font_or_int64_eq t0 t1 t2 w K) h)
def S_font_reader_simple_4 (t8 t75:Value)(w:World)(N7:List Value→World→Prop)(K:Ending→World→Prop):Prop:=
 DoX prog (mBin .add 3 t75 (.int .i64 1)) w (pk K) fun t106 w=>
 N7 [t8,t106] w
def S_font_reader_simple_3 (t1 t8 t73 t74 t75:Value)(w:World)(N7:List Value→World→Prop)(K:Ending→World→Prop):Prop:=
 DoX prog (mBin .lss 3 t75 t74) w (pk K) fun t76 w=>
 IfX t76 (JoinX (fun J8=>
 DoX prog (mIA 46 t73 t75) w (pk K) fun t77 w=>
 DoX prog (mLoad 48 t77) w (pk K) fun t78 w=>
 DoX prog (mAlloc 48) w (pk K) fun t10 w=>
 DoX prog (mStore 48 t10 t78) w (pk K) fun _ w=>
 DoX prog (mFA 48 t10 0) w (pk K) fun t79 w=>
 DoX prog (mLoad 3 t79) w (pk K) fun t80 w=>
 DoX prog (mEq .eql 3 (.tmp 80) (.const (.int .i64 2)) t80 (.int .i64 2)) w (pk K) fun t81 w=>
 IfX t81 (DoX prog (mLoad 48 t10) w (pk K) fun t82 w=>
 CallX prog 121 #[t82,(.int .i64 255)] w (pk K) fun t83 w=>
 J8 [t83] w) (DoX prog (mFA 48 t10 0) w (pk K) fun t84 w=>
 DoX prog (mLoad 3 t84) w (pk K) fun t85 w=>
 DoX prog (mEq .eql 3 (.tmp 85) (.const (.int .i64 5)) t85 (.int .i64 5)) w (pk K) fun t86 w=>
 GDo t86 true (fun E=>E t8 w) w fun t88 w=>
 GDo t86 true (fun E=>DoX prog (mBin .geq 3 t88 (.int .i64 0)) w (pk K) E) w fun t89 w=>
 DoX prog (mPick t86 t89 (.bool false)) w (pk K) fun t90 w=>
 GDo t90 true (fun E=>E t8 w) w fun t92 w=>
 GDo t90 true (fun E=>DoX prog (mBin .lss 3 t92 (.int .i64 256)) w (pk K) E) w fun t93 w=>
 DoX prog (mPick t90 t93 (.bool false)) w (pk K) fun t94 w=>
 CallX prog 86 #[t94] w (pk K) fun t95 w=>
 QuietX w (fun C9=>
 QDo prog C9 (mNil t1) fun t97=>
 QDo prog C9 (mFA 26 t97 5) fun t98=>
 QDo prog C9 (mLoad 23 t98) fun t99=>
 QDo prog C9 (mFA 48 t10 3) fun t101=>
 QDo prog C9 (mLoad 9 t101) fun t102=>
 QDo prog C9 (mIA 23 t99 t8) fun t103=>
 ∀w,C9 w →
 DoX prog (mStore 9 t103 t102) w (pk K) fun _ w=>
 DoX prog (mBin .add 3 t8 (.int .i64 1)) w (pk K) fun t105 w=>
 J8 [t105] w))) (fun vs8 w=>∀_:Sg,S_font_reader_simple_4 (vs8.getD 0 undef) t75 w N7 K)) (K (.returned (.tuple #[])) w)
def S_font_reader_simple_2 (t1 t2 t7 t56:Value)(w:World)(K:Ending→World→Prop):Prop:=
 IfX t56 (K (.returned (.tuple #[])) w) (DoX prog (mFA 48 t7 0) w (pk K) fun t59 w=>
 DoX prog (mLoad 3 t59) w (pk K) fun t60 w=>
 DoX prog (mEq .eql 3 (.tmp 60) (.const (.int .i64 7)) t60 (.int .i64 7)) w (pk K) fun t61 w=>
 CallX prog 86 #[t61] w (pk K) fun t62 w=>
 CallX prog 19 #[] w (pk K) fun t64 w=>
 DoX prog (mNil t1) w (pk K) fun t65 w=>
 DoX prog (mFA 26 t65 5) w (pk K) fun t66 w=>
 DoX prog (mStore 23 t66 t64) w (pk K) fun _ w=>
 HeldX w (fun S6 w=>
 HDo prog S6 (mLoad 93 t2) fun t67=>
 HDo prog S6 (mFA 93 t2 0) fun t68=>
 HDo prog S6 (mLoad 50 t68) fun t69=>
 HDo prog S6 (mLoad 48 t7) fun t70=>
 DoX prog (mBuildS 23 1 #[(0,(.string ⟨#[68,105,102,102,101,114,101,110,99,101,115]⟩))]) w (pm1 (pm1 (pm1 (pm1 (pm1 (pm1 (pk K))))))) fun t71 w=>
 S6 w∧(CallX prog 116 #[t69,t70,t71] w (pm1 (pm1 (pm1 (pm1 (pm1 (pm1 (pk K))))))) fun t72 w=>
 S6 w∧(CallX prog 118 #[t67,t72] w (pm1 (pm1 (pm1 (pm1 (pm1 (pm1 (pk K))))))) fun t73 w=>
 S6 w∧(HDo prog S6 (mB .len #[46] 3 #[false] #[t73]) fun t74=>
 LoopX [(.int .i64 (-1)),(.int .i64 0)] w (fun vs7 w N7=>∀_:Sg,S_font_reader_simple_3 t1 (vs7.getD 0 undef) t73 t74 (vs7.getD 1 undef) w N7 K))))))
def S_font_reader_simple_1 (t1 t2:Value)(w:World)(K:Ending→World→Prop):Prop:=
 DoX prog (mLoad 93 t2) w (pk K) fun t52 w=>
 CallX prog 85 #[t52,(.string ⟨#[69,110,99,111,100,105,110,103]⟩)] w (pk K) fun t53 w=>
 DoX prog (mAlloc 48) w (pk K) fun t7 w=>
 DoX prog (mStore 48 t7 t53) w (pk K) fun _ w=>
 DoX prog (mFA 48 t7 0) w (pk K) fun t54 w=>
 DoX prog (mLoad 3 t54) w (pk K) fun t55 w=>
 JoinX (fun J5=>
 DoX prog (mEq .eql 3 (.tmp 55) (.const (.int .i64 0)) t55 (.int .i64 0)) w (pk K) fun t57 w=>
 IfX t57 (J5 [t57] w) (DoX prog (mEq .eql 3 (.tmp 55) (.const (.int .i64 5)) t55 (.int .i64 5)) w (pk K) fun t58 w=>
 J5 [t58] w)) (fun vs5 w=>∀_:Sg,S_font_reader_simple_2 t1 t2 t7 (vs5.getD 0 undef) w K)
def S_font_reader_simple_0 (t1 t2 t20 t21 t22:Value)(w:World)(N2:List Value→World→Prop)(K:Ending→World→Prop):Prop:=
 DoX prog (mBin .lss 3 t22 t21) w (pk K) fun t23 w=>
 IfX t23 (DoX prog (mIA 46 t20 t22) w (pk K) fun t24 w=>
 DoX prog (mLoad 48 t24) w (pk K) fun t25 w=>
 DoX prog (mAlloc 48) w (pk K) fun t5 w=>
 DoX prog (mStore 48 t5 t25) w (pk K) fun _ w=>
 HeldX w (fun S3 w=>
 HDo prog (fun _=>True) (mNil t1) fun t28=>
 HDo prog (fun _=>True) (mFA 26 t28 3) fun t29=>
 HDo prog S3 (mLoad 22 t29) fun t30=>
 HDo prog S3 (mLoad 48 t5) fun t31=>
 CallX prog 119 #[t31,(.int .i64 100000)] w (pm1 (pm1 (pm1 (pm1 (pm1 (pm1 (pm1 (pm1 (pk K))))))))) fun t32 w=>
 S3 w∧(DoX prog (mBuildS 22 1 #[(0,t32)]) w (pm1 (pm1 (pm1 (pm1 (pm1 (pm1 (pm1 (pm1 (pk K))))))))) fun t33 w=>
 S3 w∧(DoX prog (mB .append #[22,22] 22 #[false,false] #[t30,t33]) w (pm1 (pm1 (pm1 (pm1 (pm1 (pm1 (pm1 (pm1 (pk K))))))))) fun t34 w=>
 S3 w∧(HDo prog (fun _=>True) (mNil t1) fun t35=>
 HDo prog (fun _=>True) (mFA 26 t35 3) fun t36=>
 DoX prog (mStore 22 t36 t34) w (pm1 (pm1 (pm1 (pm1 (pm1 (pm1 (pm1 (pm1 (pk K))))))))) fun _ w=>
 (DoX prog (mBin .add 3 t22 (.int .i64 1)) w (pk K) fun t37 w=>
 N2 [t37] w)))))) (JoinX (fun J4=>
 DoX prog (mLoad 93 t2) w (pk K) fun t38 w=>
 CallX prog 85 #[t38,(.string ⟨#[70,111,110,116,68,101,115,99,114,105,112,116,111,114]⟩)] w (pk K) fun t39 w=>
 DoX prog (mAlloc 48) w (pk K) fun t6 w=>
 DoX prog (mStore 48 t6 t39) w (pk K) fun _ w=>
 DoX prog (mFA 48 t6 0) w (pk K) fun t40 w=>
 DoX prog (mLoad 3 t40) w (pk K) fun t41 w=>
 DoX prog (mEq .eql 3 (.tmp 41) (.const (.int .i64 7)) t41 (.int .i64 7)) w (pk K) fun t42 w=>
 IfX t42 (DoX prog (mFA 93 t2 0) w (pk K) fun t44 w=>
 DoX prog (mLoad 50 t44) w (pk K) fun t45 w=>
 DoX prog (mLoad 48 t6) w (pk K) fun t46 w=>
 DoX prog (mBuildS 23 1 #[(0,(.string ⟨#[77,105,115,115,105,110,103,87,105,100,116,104]⟩))]) w (pk K) fun t47 w=>
 CallX prog 116 #[t45,t46,t47] w (pk K) fun t48 w=>
 CallX prog 120 #[t48,(.int .i64 100000),(.int .i64 0)] w (pk K) fun t49 w=>
 DoX prog (mNil t1) w (pk K) fun t50 w=>
 DoX prog (mFA 26 t50 4) w (pk K) fun t51 w=>
 DoX prog (mStore 2 t51 t49) w (pk K) fun _ w=>
 J4 [] w) (J4 [] w)) (fun vs4 w=>∀_:Sg,S_font_reader_simple_1 t1 t2 w K))
def S_font_reader_simple (t0 t1:Value)(w:World)(K:Ending→World→Prop):Prop:=
 DoX prog (mBox 93 t0) w (pk K) fun t2 w=>
 DoX prog (mLoad 93 t2) w (pk K) fun t12 w=>
 CallX prog 85 #[t12,(.string ⟨#[70,105,114,115,116,67,104,97,114]⟩)] w (pk K) fun t13 w=>
 CallX prog 117 #[t13,(.int .i64 255),(.int .i64 0)] w (pk K) fun t14 w=>
 DoX prog (mNil t1) w (pk K) fun t15 w=>
 DoX prog (mFA 26 t15 2) w (pk K) fun t16 w=>
 DoX prog (mStore 3 t16 t14) w (pk K) fun _ w=>
 HeldX w (fun S1 w=>
 HDo prog S1 (mLoad 93 t2) fun t17=>
 HDo prog S1 (mLoad 93 t2) fun t18=>
 CallX prog 85 #[t18,(.string ⟨#[87,105,100,116,104,115]⟩)] w (pm1 (pm1 (pm1 (pm1 (pk K))))) fun t19 w=>
 S1 w∧(CallX prog 118 #[t17,t19] w (pm1 (pm1 (pm1 (pm1 (pk K))))) fun t20 w=>
 S1 w∧(HDo prog S1 (mB .len #[46] 3 #[false] #[t20]) fun t21=>
 LoopX [(.int .i64 0)] w (fun vs2 w N2=>∀_:Sg,S_font_reader_simple_0 t1 t2 t20 t21 (vs2.getD 0 undef) w N2 K))))
theorem S_font_reader_simple_eq (t0 t1:Value)(w:World)(K:Ending→World→Prop):wpX prog 107 [(10,[]),(25,[8]),(999999,[56])] [(3,[22]),(18,[8,75])] none (bodyOf Tryz.f87) (topQ prog [] K) (startX [t0,t1]) [] w=S_font_reader_simple t0 t1 w K:=by kernel_rfl
theorem S_font_reader_simple_ok {t0 t1:Value}{w:World}{K:Ending→World→Prop}(h:S_font_reader_simple t0 t1 w K):Calls prog 87 #[t0,t1] w K:=
 calls_of_wpX Tryz.func87 rfl rfl rfl rfl (Eq.mpr (S_font_reader_simple_eq t0 t1 w K) h)
def S_font_reader_maps (t0 t1 t2:Value)(w:World)(K:Ending→World→Prop):Prop:=
 DoX prog (mBox 93 t0) w (pk K) fun t3 w=>
 DoX prog (mBox 48 t2) w (pk K) fun t5 w=>
 DoX prog (mFA 48 t5 0) w (pk K) fun t10 w=>
 DoX prog (mLoad 3 t10) w (pk K) fun t11 w=>
 DoX prog (mEq .eql 3 (.tmp 11) (.const (.int .i64 0)) t11 (.int .i64 0)) w (pk K) fun t12 w=>
 IfX t12 (K (.returned (.tuple #[])) w) (DoX prog (mLoad 48 t5) w (pk K) fun t14 w=>
 CallX prog 123 #[t14] w (pk K) fun t15 w=>
 DoX prog (mExt t15 0) w (pk K) fun t16 w=>
 DoX prog (mExt t15 1) w (pk K) fun t17 w=>
 CallX prog 42 #[t17] w (pk K) fun t19 w=>
 CallX prog 124 #[t16] w (pk K) fun t22 w=>
 DoX prog (mExt t22 0) w (pk K) fun t23 w=>
 DoX prog (mExt t22 1) w (pk K) fun t24 w=>
 DoX prog (mExt t22 2) w (pk K) fun t25 w=>
 CallX prog 42 #[t25] w (pk K) fun t27 w=>
 DoX prog (mB .len #[24] 3 #[false] #[t23]) w (pk K) fun t29 w=>
 DoX prog (mEq .eql 3 (.tmp 29) (.const (.int .i64 0)) t29 (.int .i64 0)) w (pk K) fun t30 w=>
 GDo t30 false (fun E=>E t24 w) w fun t32 w=>
 GDo t30 false (fun E=>E t1 w) w fun t33 w=>
 GDo t30 false (fun E=>DoX prog (mNil t33) w (pk K) E) w fun t34 w=>
 GDo t30 false (fun E=>DoX prog (mFA 26 t34 1) w (pk K) E) w fun t35 w=>
 GDo t30 false (fun E=>DoX prog (mLoad 4 t35) w (pk K) E) w fun t36 w=>
 GDo t30 false (fun E=>DoX prog (mEq .eql 4 (.tmp 32) (.tmp 36) t32 t36) w (pk K) E) w fun t37 w=>
 DoX prog (mPick t30 (.bool true) t37) w (pk K) fun t38 w=>
 CallX prog 86 #[t38] w (pk K) fun t39 w=>
 DoX prog (mNil t1) w (pk K) fun t42 w=>
 DoX prog (mFA 26 t42 6) w (pk K) fun t43 w=>
 DoX prog (mStore 24 t43 t23) w (pk K) fun _ w=>
 K (.returned (.tuple #[])) w)
theorem S_font_reader_maps_eq (t0 t1 t2:Value)(w:World)(K:Ending→World→Prop):wpX prog 44 [] [] none (bodyOf Tryz.f89) (topQ prog [] K) (startX [t0,t1,t2]) [] w=S_font_reader_maps t0 t1 t2 w K:=by kernel_rfl
theorem S_font_reader_maps_ok {t0 t1 t2:Value}{w:World}{K:Ending→World→Prop}(h:S_font_reader_maps t0 t1 t2 w K):Calls prog 89 #[t0,t1,t2] w K:=
 calls_of_wpX Tryz.func89 rfl rfl rfl rfl (Eq.mpr (S_font_reader_maps_eq t0 t1 t2 w K) h)
def S_font_reader_font_1 (t1 t2 t5:Value)(w:World)(K:Ending→World→Prop):Prop:=
 DoX prog (mLoad 93 t1) w (pk K) fun t41 w=>
 CallX prog 85 #[t41,(.string ⟨#[84,111,85,110,105,99,111,100,101]⟩)] w (pk K) fun t42 w=>
 DoX prog (mAlloc 48) w (pk K) fun t6 w=>
 DoX prog (mStore 48 t6 t42) w (pk K) fun _ w=>
 DoX prog (mFA 48 t6 0) w (pk K) fun t43 w=>
 DoX prog (mLoad 3 t43) w (pk K) fun t44 w=>
 DoX prog (mEq .eql 3 (.tmp 44) (.const (.int .i64 0)) t44 (.int .i64 0)) w (pk K) fun t45 w=>
 GDo t45 false (fun E=>DoX prog (mFA 48 t6 0) w (pk K) E) w fun t47 w=>
 GDo t45 false (fun E=>DoX prog (mLoad 3 t47) w (pk K) E) w fun t48 w=>
 GDo t45 false (fun E=>DoX prog (mEq .eql 3 (.tmp 48) (.const (.int .i64 9)) t48 (.int .i64 9)) w (pk K) E) w fun t49 w=>
 DoX prog (mPick t45 (.bool true) t49) w (pk K) fun t50 w=>
 GDo t50 true (fun E=>DoX prog (mLoad 26 t5) w (pk K) E) w fun t52 w=>
 GDo t50 true (fun E=>CallX prog 30 #[t52] w (pk K) E) w fun t53 w=>
 DoX prog (mPick t50 t53 (.bool false)) w (pk K) fun t54 w=>
 CallX prog 86 #[t54] w (pk K) fun t55 w=>
 DoX prog (mLoad 93 t1) w (pk K) fun t56 w=>
 DoX prog (mLoad 48 t6) w (pk K) fun t57 w=>
 CallX prog 89 #[t56,t5,t57] w (pk K) fun t58 w=>
 DoX prog (mLoad 26 t5) w (pk K) fun t59 w=>
 CallX prog 16 #[t59] w (pk K) fun t60 w=>
 DoX prog (mEq .eql 30 (.tmp 60) (.const (.int .i64 0)) t60 (.int .i64 0)) w (pk K) fun t61 w=>
 CallX prog 86 #[t61] w (pk K) fun t62 w=>
 DoX prog (mLoad 26 t5) w (pk K) fun t63 w=>
 DoX prog (mStore 26 t2 t63) w (pk K) fun _ w=>
 RetX prog [.cell t2 26] w K
def S_font_reader_font_0 (t1 t5 t30 t32:Value)(w:World)(J1:List Value→World→Prop)(K:Ending→World→Prop):Prop:=
 IfX t32 (DoX prog (mLoad 93 t1) w (pk K) fun t35 w=>
 CallX prog 87 #[t35,t5] w (pk K) fun t36 w=>
 J1 [] w) (DoX prog (mEq .eql 9 (.tmp 30) (.const (.string ⟨#[84,121,112,101,48]⟩)) t30 (.string ⟨#[84,121,112,101,48]⟩)) w (pk K) fun t38 w=>
 IfX t38 (DoX prog (mLoad 93 t1) w (pk K) fun t39 w=>
 CallX prog 88 #[t39,t5] w (pk K) fun t40 w=>
 J1 [] w) (CallX prog 86 #[(.bool false)] w (pk K) fun t31 w=>
 J1 [] w))
def S_font_reader_font (t0:Value)(w:World)(K:Ending→World→Prop):Prop:=
 DoX prog (mBox 93 t0) w (pk K) fun t1 w=>
 DoX prog (mAlloc 26) w (pk K) fun t2 w=>
 DoX prog (mLoad 93 t1) w (pk K) fun t7 w=>
 CallX prog 85 #[t7,(.string ⟨#[83,117,98,116,121,112,101]⟩)] w (pk K) fun t8 w=>
 DoX prog (mAlloc 48) w (pk K) fun t3 w=>
 DoX prog (mStore 48 t3 t8) w (pk K) fun _ w=>
 DoX prog (mLoad 93 t1) w (pk K) fun t9 w=>
 CallX prog 85 #[t9,(.string ⟨#[66,97,115,101,70,111,110,116]⟩)] w (pk K) fun t10 w=>
 DoX prog (mAlloc 48) w (pk K) fun t4 w=>
 DoX prog (mStore 48 t4 t10) w (pk K) fun _ w=>
 DoX prog (mFA 93 t1 1) w (pk K) fun t11 w=>
 DoX prog (mFA 48 t11 0) w (pk K) fun t12 w=>
 DoX prog (mLoad 3 t12) w (pk K) fun t13 w=>
 DoX prog (mEq .eql 3 (.tmp 13) (.const (.int .i64 7)) t13 (.int .i64 7)) w (pk K) fun t14 w=>
 GDo t14 true (fun E=>DoX prog (mFA 48 t3 0) w (pk K) E) w fun t16 w=>
 GDo t14 true (fun E=>DoX prog (mLoad 3 t16) w (pk K) E) w fun t17 w=>
 GDo t14 true (fun E=>DoX prog (mEq .eql 3 (.tmp 17) (.const (.int .i64 5)) t17 (.int .i64 5)) w (pk K) E) w fun t18 w=>
 DoX prog (mPick t14 t18 (.bool false)) w (pk K) fun t19 w=>
 GDo t19 true (fun E=>DoX prog (mFA 48 t4 0) w (pk K) E) w fun t21 w=>
 GDo t19 true (fun E=>DoX prog (mLoad 3 t21) w (pk K) E) w fun t22 w=>
 GDo t19 true (fun E=>DoX prog (mEq .eql 3 (.tmp 22) (.const (.int .i64 5)) t22 (.int .i64 5)) w (pk K) E) w fun t23 w=>
 DoX prog (mPick t19 t23 (.bool false)) w (pk K) fun t24 w=>
 CallX prog 86 #[t24] w (pk K) fun t25 w=>
 DoX prog (mFA 48 t4 3) w (pk K) fun t26 w=>
 DoX prog (mLoad 9 t26) w (pk K) fun t27 w=>
 DoX prog (mBuild 26 #[(0,t27)]) w (pk K) fun t28 w=>
 DoX prog (mAlloc 26) w (pk K) fun t5 w=>
 DoX prog (mStore 26 t5 t28) w (pk K) fun _ w=>
 JoinX (fun J1=>
 DoX prog (mFA 48 t3 3) w (pk K) fun t29 w=>
 DoX prog (mLoad 9 t29) w (pk K) fun t30 w=>
 JoinX (fun J2=>
 DoX prog (mEq .eql 9 (.tmp 30) (.const (.string ⟨#[84,121,112,101,49]⟩)) t30 (.string ⟨#[84,121,112,101,49]⟩)) w (pk K) fun t33 w=>
 IfX t33 (J2 [t33] w) (DoX prog (mEq .eql 9 (.tmp 30) (.const (.string ⟨#[84,114,117,101,84,121,112,101]⟩)) t30 (.string ⟨#[84,114,117,101,84,121,112,101]⟩)) w (pk K) fun t34 w=>
 J2 [t34] w)) (fun vs2 w=>∀_:Sg,S_font_reader_font_0 t1 t5 t30 (vs2.getD 0 undef) w J1 K)) (fun vs1 w=>∀_:Sg,S_font_reader_font_1 t1 t2 t5 w K)
theorem S_font_reader_font_eq (t0:Value)(w:World)(K:Ending→World→Prop):wpX prog 64 [(9,[32]),(12,[])] [] none (bodyOf Tryz.f50) (topQ prog [.cell 2 26] K) (startX [t0]) [] w=S_font_reader_font t0 w K:=by kernel_rfl
theorem S_font_reader_font_ok {t0:Value}{w:World}{K:Ending→World→Prop}(h:S_font_reader_font t0 w K):Calls prog 50 #[t0] w K:=
 calls_of_wpX Tryz.func50 rfl rfl rfl rfl (Eq.mpr (S_font_reader_font_eq t0 w K) h)
def S_font_Read_p0 (x0:Deferred)(x1:Value)(x2:Value)(K:Ending→World→Prop):=pd prog [.cell x1 26,.cell x2 30] K [x0]
def S_font_Read (t0 t1:Value)(w:World)(K:Ending→World→Prop):Prop:=
 DoX prog (mBox 50 t0) w (pk K) fun t2 w=>
 DoX prog (mBox 48 t1) w (pk K) fun t3 w=>
 DoX prog (mAlloc 26) w (pk K) fun t4 w=>
 DoX prog (mAlloc 30) w (pk K) fun t5 w=>
 DoX prog (mFunc (.func 48) #[] #[t4,t5]) w (pk K) fun t6 w=>
 DfrX (dfrV t6 #[]) (fun d1=>
 HeldX w (fun S2 w=>
 HDo prog S2 (mLoad 50 t2) fun t7=>
 HDo prog S2 (mLoad 50 t2) fun t8=>
 HDo prog S2 (mLoad 48 t3) fun t9=>
 CallX prog 49 #[t8,t9] w (pm1 (pm1 (pm1 (pm1 (S_font_Read_p0 d1 t4 t5 K))))) fun t10 w=>
 S2 w∧(HDo prog (fun _=>True) (mBuild 93 #[(0,t7),(1,t10)]) fun t11=>
 CallX prog 50 #[t11] w (pm1 (pm1 (pm1 (pm1 (S_font_Read_p0 d1 t4 t5 K))))) fun t12 w=>
 S2 w∧(DoX prog (mStore 26 t4 t12) w (pm1 (pm1 (pm1 (pm1 (S_font_Read_p0 d1 t4 t5 K))))) fun _ w=>
 (DoX prog (mStore 30 t5 (.int .i64 0)) w (pm1 (pm1 (pm1 (pm1 (S_font_Read_p0 d1 t4 t5 K))))) fun _ w=>
 (Leave prog [.cell t4 26,.cell t5 30] K [d1] .returning w))))))
theorem S_font_Read_eq (t0 t1:Value)(w:World)(K:Ending→World→Prop):wpX prog 13 [] [] none (bodyOf Tryz.f23) (topQ prog [.cell 4 26,.cell 5 30] K) (startX [t0,t1]) [] w=S_font_Read t0 t1 w K:=by kernel_rfl
theorem S_font_Read_ok {t0 t1:Value}{w:World}{K:Ending→World→Prop}(h:S_font_Read t0 t1 w K):Calls prog 23 #[t0,t1] w K:=
 calls_of_wpX Tryz.func23 rfl rfl rfl rfl (Eq.mpr (S_font_Read_eq t0 t1 w K) h)
end
section
open Eng Go.RowKit
namespace Fo
def val (d:Dc)(o:Ob)(key:List UInt8):Ob:=Dk.path d (Dk.follow d o) [key]
def within (o:Ob)(most:Int):Prop:=o.k=2∧0≤o.n∧o.n≤most
def orI (o:Ob)(none:Int):Int:=if o.k=0 then none else o.n
end Fo
theorem joinF {F:(List Value→World→Prop)→Prop}{R:List Value→World→Prop}(I:List Value→World→Prop)(h0:∀J:List Value→World→Prop,(∀vs w,I vs w→J vs w)→F J)(h1:∀vs w,I vs w→R vs w):JoinX F R:=join fun J hJ=>h0 J fun vs w hi=>hJ vs w (h1 vs w hi)
def stF (e:Int):PanicEntry:={ v:=.iface 73 (.agg #[.int .i64 e]),recovered:=false }
theorem nfSt47:notIface prog 73=true:=by kernel_rfl
theorem need47_t (w:World):Ret prog 42 #[.int .i64 0] w (fun v w'=>v=.tuple #[]∧w=w'):=by
 refine ret_of fun K hK=>S_font_need_ok ?_;unfold S_font_need;simp only[n_err,show decide ((0:Int)≠0)=false from rfl,i_f];exact hK _ _ ⟨rfl,rfl⟩
theorem need47_f (e:Int)(he:e≠0)(w:World):Pan prog 42 #[.int .i64 e] w (fun c w'=>c=[stF e]∧w=w'):=by
 refine pan_of fun K hK=>S_font_need_ok ?_;unfold S_font_need;simp only[n_err,decide_eq_true he,i_t];have hb:∀{PK:PKT} {K:VWP},DoX prog (mBuild 73 #[(0,.int .i64 e)]) w PK K=K (.agg #[.int .i64 e]) w:=do_eq (by kernel_rfl);rw[hb,m_iface nfSt47,m_panic];exact hK _ _ ⟨rfl,rfl⟩
theorem must47_t (w:World):Ret prog 86 #[.bool true] w (fun v w'=>v=.tuple #[]∧w=w'):=by
 refine ret_of fun K hK=>S_font_must_ok ?_;unfold S_font_must;simp only[rs,Bool.not_true,i_f];exact hK _ _ ⟨rfl,rfl⟩
theorem must47_f (w:World):Pan prog 86 #[.bool false] w (fun c w'=>c=[stF 27]∧w=w'):=by
 refine pan_of fun K hK=>S_font_must_ok ?_;unfold S_font_must;simp only[rs,Bool.not_false,i_t];exact c_pan (need47_f 27 (by decide) w) fun c w' ⟨hc,hw⟩=>hK _ _ ⟨hc,hw⟩
section
variable {w:World}{PK:PKT}{K:VWP}{S:Nat→Prop}{w0:World}{L:List Ent}
theorem c_must47 {q:Bool}(hq:q=true)(k:K (.tuple #[]) w):CallX prog 86 #[.bool q] w PK K:=by subst hq;exact c_eq (must47_t w) k
theorem c_need47 {e:Int}(he:e=0)(k:K (.tuple #[]) w):CallX prog 42 #[.int .i64 e] w PK K:=by subst he;exact c_eq (need47_t w) k
end
theorem number47_ret (o:Ob){vk vc:Value}(h1:vk.oneCell'=true)(h2:vc.oneCell'=true)(most:Int)(w:World)(h:Fo.within o most):Ret prog 121 #[obV o vk vc,.int .i64 most] w (fun v w'=>v=.int .i64 o.n∧Below w.heap.size w w'):=by
 obtain⟨a1,a2,a3⟩:=h;refine ret_of fun K hK=>S_font_number_int_ok ?_;unfold S_font_number_int;refine o_obb o h1 h2 (Own.start w) fun b w1 ho=>?_;rw[fa_o0,ob_k ho 0 rfl];simp only[rs,decide_eq_true a1];rw[fa_o1,ob_n ho 0 rfl];simp only[rs,decide_eq_true a2];rw[fa_o1,ob_n ho 0 rfl];simp only[rs,decide_eq_true a3];refine c_must47 rfl ?_;rw[fa_o1,ob_n ho 0 rfl];exact hK _ _ ⟨rfl,ho.done⟩
theorem number47w_ret (o:Ob){vk vc:Value}(h1:vk.oneCell'=true)(h2:vc.oneCell'=true)(most:Int)(w:World)(h:Fo.within o most):Ret prog 119 #[obV o vk vc,.int .i64 most] w (fun v w'=>v=.int .i64 o.n∧Below w.heap.size w w'):=by
 obtain⟨a1,a2,a3⟩:=h;refine ret_of fun K hK=>S_font_number_int64_ok ?_;unfold S_font_number_int64;refine o_obb o h1 h2 (Own.start w) fun b w1 ho=>?_;rw[fa_o0,ob_k ho 0 rfl];simp only[rs,decide_eq_true a1];rw[fa_o1,ob_n ho 0 rfl];simp only[rs,decide_eq_true a2];rw[fa_o1,ob_n ho 0 rfl];simp only[rs,decide_eq_true a3];refine c_must47 rfl ?_;rw[fa_o1,ob_n ho 0 rfl];exact hK _ _ ⟨rfl,ho.done⟩
theorem or47_ret (o:Ob){vk vc:Value}(h1:vk.oneCell'=true)(h2:vc.oneCell'=true)(most none:Int)(w:World)(h:o.k=0∨Fo.within o most):Ret prog 117 #[obV o vk vc,.int .i64 most,.int .i64 none] w (fun v w'=>v=.int .i64 (Fo.orI o none)∧Below w.heap.size w w'):=by
 refine ret_of fun K hK=>S_font_or_int_ok ?_;unfold S_font_or_int;unfold Fo.orI at hK;refine o_obb o h1 h2 (Own.start w) fun b w1 ho=>?_;rw[fa_o0,ob_k ho 0 rfl]
 try simp only[rs]
 by_cases h0:o.k=0
 ·rw[if_pos h0] at hK;simp only[decide_eq_true h0,i_t];exact hK _ _ ⟨rfl,ho.done⟩
 ·rw[if_neg h0] at hK;simp only[decide_eq_false h0,i_f];rw[ob_v ho 0 rfl];refine c_below ho (R:=fun v=>v=.int .i64 o.n) (number47_ret o h1 h2 most w1 (h.resolve_left h0)) ?_;rintro _ w2 rfl ho;exact hK _ _ ⟨rfl,ho.done⟩
theorem or47w_ret (o:Ob){vk vc:Value}(h1:vk.oneCell'=true)(h2:vc.oneCell'=true)(most none:Int)(w:World)(h:o.k=0∨Fo.within o most):Ret prog 120 #[obV o vk vc,.int .i64 most,.int .i64 none] w (fun v w'=>v=.int .i64 (Fo.orI o none)∧Below w.heap.size w w'):=by
 refine ret_of fun K hK=>S_font_or_int64_ok ?_;unfold S_font_or_int64;unfold Fo.orI at hK;refine o_obb o h1 h2 (Own.start w) fun b w1 ho=>?_;rw[fa_o0,ob_k ho 0 rfl]
 try simp only[rs]
 by_cases h0:o.k=0
 ·rw[if_pos h0] at hK;simp only[decide_eq_true h0,i_t];exact hK _ _ ⟨rfl,ho.done⟩
 ·rw[if_neg h0] at hK;simp only[decide_eq_false h0,i_f];rw[ob_v ho 0 rfl];refine c_below ho (R:=fun v=>v=.int .i64 o.n) (number47w_ret o h1 h2 most w1 (h.resolve_left h0)) ?_;rintro _ w2 rfl ho;exact hK _ _ ⟨rfl,ho.done⟩
theorem o_ob1 {w:World}{PK:PKT}{K:VWP}{S:Nat→Prop}{w0:World}{L:List Ent}(o:Ob){vk vc:Value}(h1:vk.oneCell'=true)(h2:vc.oneCell'=true)(ho:OwnS S w0 w L)
  (k:∀b w',OwnS S w0 w' (.cells b (obC o vk vc) 48::L)→K (.slice (some ⟨b,0,none⟩) 1 1) w'):DoX prog (mBuildS 46 1 #[(0,obV o vk vc)]) w PK K:=by
 refine o_new (fun b=>.slice (some ⟨b,0,none⟩) 1 1) (obC o vk vc) 48 (fun _=>?_) ho k;cases vk<;>first|(cases h1;done)|skip
 all_goals cases vc<;>first|(cases h2;done)|kernel_rfl
theorem kids47F {M:Mem}{vc:Value}{os:List Ob}{cs:List Value}(hs:SlA M.A M.w vc 6 os.length cs)(hall:OVs M.A M.w cs os){i:Nat}(hi:i < os.length) :
  ∃b off vk xc,(∀W,(mIA 46 vc (.int .i64 (i:Int))).run prog W=.ok (.value (.pointer (some ⟨b,off,none⟩))) W)∧OV M.A M.w (obV os[i] vk xc) os[i] ∧
   ∀W,M.has W→∀j u,(obC os[i] vk xc)[j]?=some u→W.cell? ⟨b,off+j,none⟩=some u:=by
 obtain⟨b,off,cap,rfl,_⟩:=sl_open hs.1 (by omega);obtain⟨a,hl,hov,hget⟩:=OVs.get _ _ i hi hall;obtain⟨vk,xc,ocs,he,hoa⟩:=hov.open;have ea:a=obC os[i] vk xc:=by
  unfold obV at he
  injection he with he
  exact congrArg Array.toList he
 subst ea;refine⟨b,off+i*6,vk,xc,fun W=>?_,hov,fun W hW j u hj=>?_⟩
 ·have:=run_ia (P:=prog) (T:=46) (b:=b) (off:=off) (cap:=cap) (n:=os.length) (k:=.i64) (i:=(i:Int)) (w:=W) Tryz.underlying46 szOb (by omega) (by omega)
  rwa [Int.toNat_natCast] at this
 ·obtain⟨b',off',cap',he',hc⟩:=sl_open (hs.now hW) (by omega);cases he';rw[Nat.add_assoc];exact hc _ _ (hget j u hj)
def rdC (d:Dc)(vi tk tc:Value)(o:Ob)(vk vc:Value):List Value:=dcC d vi tk tc++obC o vk vc
def rdV (d:Dc)(vi tk tc:Value)(o:Ob)(vk vc:Value):Value:=.agg (rdC d vi tk tc o vk vc).toArray
abbrev rdE (b:Nat)(d:Dc)(vi tk tc:Value)(o:Ob)(vk vc:Value):Ent:=.cells b (rdC d vi tk tc o vk vc) 93
theorem aggRd:aggN prog 93=some 13:=by kernel_rfl
section
variable {w:World}{PK:PKT}{K:VWP}{S:Nat→Prop}{w0:World}{L:List Ent}
theorem o_rdb (d:Dc)(o:Ob){A:Nat→Prop}{W0:World}{vi tk tc vk vc:Value}{ics:List Value}(hda:DocAt A W0 d vi tk tc ics)(hv:OV A W0 (obV o vk vc) o)(ho:OwnS S w0 w L)
  (k:∀b w',OwnS S w0 w' (rdE b d vi tk tc o vk vc::L)→K (.pointer (some ⟨b,0,none⟩)) w'):DoX prog (mBox 93 (rdV d vi tk tc o vk vc)) w PK K:=by
 obtain⟨a1,c1,rfl,_⟩:=hda.items.form;obtain⟨_,h2⟩:=hda.trailer.slices;obtain⟨a2,c2,rfl,_⟩:=h2.keys.form;obtain⟨a3,c3,rfl,_⟩:=h2.kids.form;obtain⟨_,h4⟩:=hv.slices;obtain⟨a4,c4,rfl,_⟩:=h4.keys.form;obtain⟨a5,c5,rfl,_⟩:=h4.kids.form;exact o_new (fun b=>.pointer (some ⟨b,0,none⟩)) (rdC d _ _ _ o _ _) 93 (fun _=>by kernel_rfl) ho k
theorem fa_rd0 {b:Nat}:DoX prog (mFA 93 (.pointer (some ⟨b,0,none⟩)) 0) w PK K=K (.pointer (some ⟨b,0,none⟩)) w:=f_addr (o:=0) (by kernel_rfl)
theorem fa_rd1 {b:Nat}:DoX prog (mFA 93 (.pointer (some ⟨b,0,none⟩)) 1) w PK K=K (.pointer (some ⟨b,7,none⟩)) w:=f_addr (o:=7) (by kernel_rfl)
theorem rd_v (ho:OwnS S w0 w L)(i:Nat){b:Nat}{d:Dc}{o:Ob}{vi tk tc vk vc:Value}(hi:L[i]?=some (rdE b d vi tk tc o vk vc)):DoX prog (mLoad 93 (.pointer (some ⟨b,0,none⟩))) w PK K=K (rdV d vi tk tc o vk vc) w:=l_at (ho.agg i hi aggRd)
theorem rd_d (ho:OwnS S w0 w L)(i:Nat){b:Nat}{d:Dc}{o:Ob}{vi tk tc vk vc:Value}(hi:L[i]?=some (rdE b d vi tk tc o vk vc)):DoX prog (mLoad 50 (.pointer (some ⟨b,0,none⟩))) w PK K=K (dcV d vi tk tc) w:=l_at (ho.subAgg i hi 0 (dcC d vi tk tc) rfl aggDc)
theorem rd_o (ho:OwnS S w0 w L)(i:Nat){b:Nat}{d:Dc}{o:Ob}{vi tk tc vk vc:Value}(hi:L[i]?=some (rdE b d vi tk tc o vk vc)):DoX prog (mLoad 48 (.pointer (some ⟨b,7,none⟩))) w PK K=K (obV o vk vc) w:=l_at (ho.subAgg i hi 7 (obC o vk vc) rfl aggOb)
end
theorem at47_ret (d:Dc)(o:Ob)(key:List UInt8){vi tk tc vk vc:Value}{ics:List Value}(M:Mem)(w:World)(hd:Dk.Ok d)(hw:o.wt≤1000000000)(hM:M.has w)(hda:DocAt M.A M.w d vi tk tc ics)(hv:OV M.A M.w (obV o vk vc) o) :
  RetM prog 85 #[rdV d vi tk tc o vk vc,.string ⟨key.toArray⟩] M w (fun r N=>OV N.A N.w r (Fo.val d o key)):=by
 refine retM_of hM fun K hK=>S_font_reader_at_ok ?_;unfold S_font_reader_at;refine o_rdb d o hda hv (OwnS.memS hM) fun b2 w1 ho=>?_;refine o_oba ho fun b4 w2 ho=>?_;rw[fa_rd0,rd_d ho 1 rfl,fa_rd1,rd_o ho 1 rfl];refine o_strb1 key ho fun b7 w7 ho=>?_;obtain⟨N,hle,hrow,ho⟩:=OwnS.freezeU (ho.toU 1 1 1 rfl (by omega) (by omega)) 2 rfl;refine c_mem ho 2 rfl (dpath_ret d o [key] _ _ _ N w7 hd hw (show 1≤1000000000 by decide) (ho.hasM 2 rfl) ⟨vi,tk,tc,ics,rfl,hda.le hle⟩ (hv.le hle) hrow) ?_;intro y N2 w8 l2 hy ho;obtain⟨yk,yc,ycs,rfl,hya⟩:=hy.open;refine ob_put 0 hya.keys.one hya.kids.one ho rfl fun w9 ho=>?_;exact ret_v1 (rv_cell (ho.agg 0 rfl aggOb)) (hK _ _ N2 _ 2 ho rfl (hle.trans l2) hya.ov)
theorem kids47_ret (d:Dc)(o x:Ob){vi tk tc vk vc xk xc:Value}{ics:List Value}(M:Mem)(w:World)(hd:Dk.Ok d)(hx:x.k=0∨x.k=6)(hxw:x.wt≤1000000000)(hM:M.has w)(hda:DocAt M.A M.w d vi tk tc ics)(hv:OV M.A M.w (obV o vk vc) o)(hxv:OV M.A M.w (obV x xk xc) x) :
  RetM prog 118 #[rdV d vi tk tc o vk vc,obV x xk xc] M w (fun r N=>∃cs,SlA N.A N.w r 6 (if x.k=0 then [] else x.kids.map (Dk.follow d)).length cs∧OVs N.A N.w cs (if x.k=0 then [] else x.kids.map (Dk.follow d))):=by
 obtain⟨xk',xc',xcs,he,hxa⟩:=hxv.open;obtain⟨rfl,rfl⟩:xk=xk'∧xc=xc':=by
  have e1:=congrArg (fun v=>Value.cells v) he;simp only[obV,Value.cells,obC] at e1;simp at e1;exact⟨e1.1,e1.2⟩
 have hxl:x.kids.length≤1000000000:=by have:=Ob.len_wts x.kids;have h2:=Vl.wt_eq x;omega
 refine retM_of hM fun K hK=>S_font_reader_kids_ok ?_;unfold S_font_reader_kids;refine o_rdb d o hda hv (OwnS.memS hM) fun b2 w1 ho=>?_;refine o_obb x hxa.keys.one hxa.kids.one ho fun b3 w2 ho=>?_;rw[fa_o0,ob_k ho 0 rfl]
 try simp only[rs]
 by_cases h0:x.k=0
 ·rw[if_pos h0] at hK;simp only[decide_eq_true h0,i_t];exact hK _ _ M _ 2 ho rfl M.le_refl ⟨[],SlA.nil _ _ _ _,OVs.nil⟩
 rw[if_neg h0] at hK;simp only[decide_eq_false h0,i_f];rw[fa_o0,ob_k ho 0 rfl]
 try simp only[rs]
 refine c_must47 (decide_eq_true (hx.resolve_left h0)) ?_;rw[fa_o5,ob_kids ho 0 rfl,sl_len Tryz.underlying46 (hxa.kids.now (ho.hasM 2 rfl))];have ho:=OwnS.nilU ho 48 6;refine loop (fun vs W=>∃(i:Nat) (u:Value) (cs:List Value) (N:Mem),vs=[u,.int .i64 (i:Int)]∧i≤x.kids.length∧M.le N∧OVs N.A N.w cs ((x.kids.take i).map (Dk.follow d))∧OwnS M.A w W [.urow 48 6 u i cs,obE b3 x xk xc,rdE b2 d vi tk tc o vk vc,.mem N]) (fun vs _=>x.kids.length - n1 vs) ⟨0,_,[],M,rfl,by omega,M.le_refl,OVs.nil,ho⟩ ?_;clear ho;rintro vs w3 ⟨i,u,cs,N,rfl,hi,hle,hos,ho⟩ _;simp only[S_font_reader_kids_0,gd,rs];by_cases hlt:(i:Int) < (x.kids.length:Int)
 case neg=>
  simp only[decide_eq_false hlt,i_f];have:i=x.kids.length:=by omega
  subst this;rw[List.take_length] at hos;obtain⟨N2,l2,hs2,ho⟩:=OwnS.freezeU ho 2 rfl;exact hK _ _ N2 _ 2 ho rfl (hle.trans l2) ⟨cs,by rw[List.length_map];exact hs2,hos.le l2⟩
 simp only[decide_eq_true hlt,i_t];have hi':i < x.kids.length:=by omega
 obtain⟨b,off,yk,yc,hia,hov,hcell⟩:=kids47F (hxa.kids.le hle) (hxa.all.le hle) hi';have hM3:=ho.hasM 3 rfl;rw[do_eq (hia w3),do_eq (run_load_at (AtV.agg aggOb (cs:=obC x.kids[i] yk yc) rfl fun j v hj=>hcell w3 hM3 j v hj))];refine o_oba ho fun b7 w4 ho=>?_;refine ob_put 0 hov.oneK hov.oneC ho rfl fun w5 ho=>?_;have ho:OwnS M.A w w5 [obE b7 x.kids[i] yk yc,.urow 48 6 u i cs,obE b3 x xk xc,rdE b2 d vi tk tc o vk vc,.mem N]:=ho;rw[fa_rd0,rd_d ho 3 rfl,ob_v ho 0 rfl];have hkw:x.kids[i].wt≤x.wt:=by
  have h1:=wts_mem (List.getElem_mem hi');have h2:=Vl.wt_eq x;omega
 refine c_mem ho 4 rfl (dfollow_ret d x.kids[i] _ _ N w5 hd (by omega) (ho.hasM 4 rfl) ⟨vi,tk,tc,ics,rfl,hda.le hle⟩ hov) ?_;intro y N2 w6 l2 hy ho;obtain⟨zk,zc,zcs,rfl,hza⟩:=hy.open;refine o_ob1 (Dk.follow d x.kids[i]) hza.keys.one hza.kids.one ho fun b8 w7 ho=>?_;refine o_apO 2 ho rfl (ho.sl 0 rfl 6 1 1 rfl) (obC_one _ hza.keys.one hza.kids.one) (by omega) fun u' w8 ho=>?_
 try simp only[rs]
 rw[wrap64_id (by omega) (by omega)];refine nextX ⟨i+1,u',cs++obC (Dk.follow d x.kids[i]) zk zc,N2,rfl,by omega,hle.trans l2,?_,ho.tail.tail⟩ (by simp[n1,RowKit.intOf];omega);rw[List.take_succ_eq_append_getElem hi',List.map_append];exact OVs.snoc rfl hza.ov _ _ (hos.le l2)
end
end Go.Proofs.YtmkodaephgnehaaGreatDoor






namespace Go.Proofs.YtmkodaephgnehaaGreatDoor
section
open Eng Go.RowKit
theorem contains_ret (va:Value)(l:List (List UInt8))(x:List UInt8)(w:World)(ha:Sl w va 1 l.length (strsV l))(hl:l.length≤1099511627776) :
  Ret prog 97 #[va,.string ⟨x.toArray⟩] w (fun v w'=>v=.bool (decide (x∈l))∧w=w'):=by
 refine ret_of fun K hK=>S_slices_Contains_string_string_ok ?_;unfold S_slices_Contains_string_string;refine c_eq (sindex_ret va l x w ha hl) ?_;by_cases h:l.idxOf x < l.length
 ·rw[if_pos h];simp only[rs];refine hK _ _ ⟨?_,rfl⟩;have hm:x∈l:=List.idxOf_lt_length_iff.1 h;rw[decide_eq_true hm,decide_eq_true (by omega)]
 ·rw[if_neg h];simp only[rs];refine hK _ _ ⟨?_,rfl⟩;have hm:x ∉ l:=fun hm=>h (List.idxOf_lt_length_iff.2 hm);rw[decide_eq_false hm,decide_eq_false (by omega)]
def Dk.knownL:List (List UInt8):=[Dk.idK,Dk.infoK,Dk.rootK]
theorem Dk.known_mem (k:List UInt8):decide (k∈Dk.knownL)=Dk.known k:=by
 rw[Bool.eq_iff_iff];simp[Dk.knownL,Dk.known,or_assoc]
theorem known_ret (M:Mem)(w:World)(hM:M.has w):RetM prog 98 #[] M w (fun r N=>SlA N.A N.w r 1 3 (strsV Dk.knownL)):=by
 refine retM_of hM fun K hK=>S_docs_known_ok ?_;unfold S_docs_known;refine o_new (fun b=>.slice (some ⟨b,0,none⟩) 3 3) (strsV Dk.knownL) 9 (fun _=>by kernel_rfl) (OwnS.memS hM) fun b w1 ho=>?_;obtain⟨N,hle,hrow,ho⟩:=OwnS.freezeU (L:=[.mem M]) (ho.toU 1 3 3 (by decide) (by omega) (by omega)) 0 rfl;exact hK _ _ N _ 0 ho rfl hle hrow
theorem Dk.trail_keys (d:Dc)(hc:Vl.check 1 d.trailer=0)(h7:d.trailer.k=7)(h:d.trailer.keys.all Dk.known=false):Dk.trail d=3:=by
 unfold Dk.trail;rw[if_neg (by simp[hc]),if_neg (by simp[h7]),if_pos h]
theorem Dk.trail_end (d:Dc)(hc:Vl.check 1 d.trailer=0)(h7:d.trailer.k=7)(h:d.trailer.keys.all Dk.known=true):Dk.trail d=if (Dk.root d).k≠8∨(Dk.follow d (Dk.root d)).k≠7 then 22 else 0:=by
 unfold Dk.trail;rw[if_neg (by simp[hc]),if_neg (by simp[h7]),if_neg (by simp[h])]
theorem Dk.all_false {l:List (List UInt8)}{i:Nat}(hi:i < l.length)(h:Dk.known l[i]=false):l.all Dk.known=false:=by
 rw[List.all_eq_false];exact⟨l[i],List.getElem_mem hi,by simp[h]⟩
theorem Dk.all_true {l:List (List UInt8)}{i:Nat}(hi:l.length≤i)(h:∀m (hm:m < l.length),m < i→Dk.known l[m]=true):l.all Dk.known=true:=by
 rw[List.all_eq_true];intro x hx;obtain⟨m,hm,rfl⟩:=List.getElem_of_mem hx;exact h m hm (by omega)
theorem dtrail_ret (d:Dc)(dv:Value)(M:Mem)(w:World)(hd:Dk.Ok d)(hM:M.has w)(hdv:DV M.A M.w dv d) :
  RetM prog 66 #[dv] M w (fun r _=>r=.int .i64 (Dk.trail d)):=by
 obtain⟨vi,tk,tc,cs,rfl,hda⟩:=hdv;obtain⟨ocs,hta⟩:=hda.trailer.slices;have htw:=hd.trailer;have hkt:Pl.tot d.trailer.keys≤1000000000:=by have:=d.trailer.wt_eq;omega
 have hkl:=Pl.length_tot d.trailer.keys;refine retM_of hM fun K hK=>S_docs_trail_ok ?_;unfold S_docs_trail;refine o_dcb d hda.items.one hda.trailer.oneK hda.trailer.oneC (OwnS.memS hM) fun b w1 ho=>?_;rw[fa_d1,dc_tr ho 0 rfl];refine c_below ho (R:=fun v=>v=.int .i64 (Vl.check 1 d.trailer)) (vCheck_ret d.trailer _ w1 (OV.inw (ho.hasM 1 rfl) hda.trailer) (by omega)) ?_;rintro _ w2 rfl ho;simp only[n_err];by_cases hc:Vl.check 1 d.trailer=0
 case neg=>
  simp only[hc,ne_eq,not_false_eq_true,decide_true,i_t];exact hK _ _ M _ 1 ho rfl M.le_refl (by unfold Dk.trail;rw[if_pos hc])
 simp only[hc,ne_eq,not_true,decide_false,i_f];rw[fa_d1,fa_o0,dc_trk ho 0 rfl];simp only[rs];by_cases h7:d.trailer.k=7
 case neg=>
  simp only[h7,ne_eq,not_false_eq_true,decide_true,i_t];exact hK _ _ M _ 1 ho rfl M.le_refl (by unfold Dk.trail;rw[if_neg (by simp[hc]),if_pos h7])
 simp only[h7,ne_eq,not_true,decide_false,i_f];rw[fa_d1,fa_o4,dc_trkeys ho 0 rfl,sl_len Tryz.underlying23 (hta.keys.now (ho.hasM 1 rfl))];refine loop (fun vs W=>∃(i:Nat) (N:Mem),vs=[.int .i64 i]∧i≤d.trailer.keys.length∧M.le N∧(∀m (hm:m < d.trailer.keys.length),m < i→Dk.known d.trailer.keys[m]=true)∧OwnS M.A w W [dcE b d vi tk tc,.mem N]) (fun vs _=>d.trailer.keys.length - n0 vs)
  ⟨0,M,rfl,by omega,M.le_refl,fun m _ h=>by omega,ho⟩ ?_
 clear ho;rintro vs w3 ⟨i,N,rfl,hi,hle,hlo,ho⟩ _;simp only[S_docs_trail_0,gd,rs];by_cases hlt:(i:Int) < (d.trailer.keys.length:Int)
 ·have hi':i < d.trailer.keys.length:=by omega
  simp only[hlt,decide_true,i_t];obtain⟨p,hr⟩:=str_at hta.keys hi';obtain⟨r1,r2⟩:=hr w3 (Mem.has_of hle (ho.hasM 1 rfl));refine do_eq r1 |>.mpr (do_eq r2 |>.mpr ?_);refine c_mem ho 1 rfl (known_ret N w3 (ho.hasM 1 rfl)) fun y N2 w4 hle2 hy ho=>?_;refine c_eq (contains_ret y Dk.knownL d.trailer.keys[i] w4 (hy.now (ho.hasM 1 rfl)) (by decide)) ?_;rw[Dk.known_mem];cases hk:Dk.known d.trailer.keys[i] with
 |false=>
   simp only[rs,Bool.not_false];exact hK _ _ N2 _ 1 ho rfl (hle.trans hle2) (by rw[Dk.trail_keys d hc h7 (Dk.all_false hi' hk)])
 |true=>
   simp only[rs,Bool.not_true];rw[wrap64_id (by omega) (by omega)];refine nextX ⟨i+1,N2,rfl,by omega,hle.trans hle2,fun m hm hmi=>?_,ho⟩ (by simp[n0,RowKit.intOf];omega);rcases Nat.lt_or_ge m i with h|h
   ·exact hlo m hm h
   ·have:m=i:=by omega
    subst this;exact hk
 ·simp only[hlt,decide_false,i_f];have he:=Dk.trail_end d hc h7 (Dk.all_true (by omega) hlo);rw[fa_d1,dc_tr ho 0 rfl];refine c_mem ho 1 rfl (vget_ret d.trailer _ Dk.rootK N w3 (by omega) (ho.hasM 1 rfl) (hda.trailer.le hle)) ?_;rintro _ N2 w4 hle2 ⟨t,rfl,ht⟩ ho;obtain⟨xk,xc,rfl,ht⟩:=getD_ov ht;have hrw:(Dk.root d).wt≤1000000000:=by have:=Vl.get_wt (o:=d.trailer) (key:=Dk.rootK);unfold Dk.root;omega
  rw[show (Vl.get d.trailer Dk.rootK).getD Vl.ob0=Dk.root d from rfl] at ht ⊢;simp only[getV,ex];refine o_oba ho fun b6 w5 ho=>?_;refine ob_put 0 ht.oneK ht.oneC ho rfl fun w6 ho=>?_;rw[fa_o0,ob_k ho 0 rfl];simp only[rs];by_cases h8:(Dk.root d).k=8
  case neg=>
   simp only[h8,ne_eq,not_false_eq_true,decide_true,rs,g_un];exact hK _ _ N2 _ 2 ho rfl (hle.trans hle2) (by rw[he,if_pos (Or.inl h8)])
  simp only[h8,ne_eq,not_true,decide_false,rs];rw[dc_v ho 1 rfl,ob_v ho 0 rfl];refine c_mem ho 2 rfl (dfollow_ret d (Dk.root d) _ _ N2 w6 hd hrw (ho.hasM 2 rfl) ((hda.le (hle.trans hle2)).dv) ht) fun y N3 w7 hle3 hy ho=>?_;obtain⟨yk,yc,ycs,rfl,hya⟩:=hy.open;rw[fld_k];simp only[rs];by_cases hf:(Dk.follow d (Dk.root d)).k=7
  ·simp only[hf,ne_eq,not_true,decide_false,rs];exact hK _ _ N3 _ 2 ho rfl ((hle.trans hle2).trans hle3) (by rw[he,if_neg (by simp[h8,hf])])
  ·simp only[hf,ne_eq,not_false_eq_true,decide_true,rs];exact hK _ _ N3 _ 2 ho rfl ((hle.trans hle2).trans hle3) (by rw[he,if_pos (Or.inr hf)])
theorem dcheck_ret (d:Dc)(dv:Value)(M:Mem)(w:World)(hd:Dk.Ok d)(hM:M.has w)(hdv:DV M.A M.w dv d) :
  RetM prog 37 #[dv] M w (fun r _=>r=.int .i64 (Dk.check d)):=by
 obtain⟨vi,tk,tc,cs,rfl,hda⟩:=hdv;refine retM_of hM fun K hK=>S_docs_Check_ok ?_;unfold S_docs_Check;refine o_dcb d hda.items.one hda.trailer.oneK hda.trailer.oneC (OwnS.memS hM) fun b w1 ho=>?_;rw[fa_d0,dc_items ho 0 rfl];refine c_below ho (R:=fun v=>v=.int .i64 (Dk.itemsG none d.items)) (RetM.told (ditems_ret d.items vi cs M w1 hd.len (fun i hi=>by have:=hd.items i hi;omega) (ho.hasM 1 rfl) hda.items hda.all)) ?_;rintro _ w2 rfl ho;simp only[n_err];by_cases hc:Dk.itemsG none d.items=0
 case neg=>
  simp only[hc,ne_eq,not_false_eq_true,decide_true,i_t];exact hK _ _ M _ 1 ho rfl M.le_refl (by unfold Dk.check;rw[if_pos hc])
 simp only[hc,ne_eq,not_true,decide_false,i_f];rw[dc_v ho 0 rfl];refine c_below ho (R:=fun v=>v=.int .i64 (Dk.trail d)) (RetM.told (dtrail_ret d _ M w2 hd (ho.hasM 1 rfl) hda.dv)) ?_;rintro _ w3 rfl ho;exact hK _ _ M _ 1 ho rfl M.le_refl (by unfold Dk.check;rw[if_neg (by simp[hc])])
end
section
open Go
namespace Dk
def Rise (l:List It):Prop:=l.Pairwise fun a b=>a.num < b.num
theorem itemsG_rise:∀(l:List It) (last:Option Int),itemsG last l=0→(∀n,last=some n→∀i∈l,n < i.num)∧Rise l
|[],_,_=>⟨fun _ _ i hi=>(by cases hi),List.Pairwise.nil⟩
|i::l,last,h=>by
  rw[itemsG] at h;split at h
  ·omega
  split at h
  ·omega
  split at h
  ·rename_i h3;exact absurd h h3
  rename_i h1 h2 h3
  obtain⟨a,b⟩:=itemsG_rise l (some i.num) h;have hl:=a i.num rfl;refine⟨fun n hn x hx=>?_,List.pairwise_cons.2 ⟨hl,b⟩⟩;subst hn;simp at h2;rcases List.mem_cons.1 hx with rfl|hx
  ·exact h2
  ·have:=hl x hx;omega
theorem check_rise {d:Dc}(h:check d=0):Rise d.items:=by
 unfold check at h;split at h
 ·rename_i h1;exact absurd h h1
 ·rename_i h1
  have h1:itemsG none d.items=0:=by simpa using h1
  exact (itemsG_rise _ _ h1).2
theorem rise_get {l:List It}(h:Rise l){i j:Nat}(hij:i < j)(hj:j < l.length):l[i].num < l[j].num:=
 List.pairwise_iff_getElem.1 h i j (by omega) hj hij
theorem place_le (l:List It)(n:Int):place l n≤l.length:=by
 unfold place;exact List.Sublist.length_le (List.takeWhile_sublist _)
theorem place_at:∀{l:List It} {n:Int} {i:Nat},i≤l.length→(∀m (h:m < l.length),m < i→l[m].num < n)→(∀h:i < l.length,¬l[i].num < n)→place l n=i
|[],n,i,hi,_,_=>by
  have:i=0:=by simpa using hi
  subst this;rfl
|a::l,n,0,_,_,h2=>by
  have:=h2 (by simp);simp at this;unfold place;rw[List.takeWhile_cons,if_neg (by simpa using this)];rfl
|a::l,n,i+1,hi,h1,h2=>by
  have ha:=h1 0 (by simp) (by omega);have ih:=place_at (l:=l) (n:=n) (i:=i) (by simpa using hi) (fun m h hm=>by have:=h1 (m+1) (by simpa using h) (by omega);simpa using this) (fun h=>by have:=h2 (by simpa using h);simpa using this);unfold place at ih ⊢;rw[List.takeWhile_cons,if_pos (by simpa using ha),List.length_cons,ih]
theorem hit_at {l:List It}{n:Int}{i:Nat}(hp:place l n=i)(hi:i < l.length):hit l n=decide (l[i].num=n):=by
 unfold hit;rw[hp,List.getElem?_eq_getElem hi]
theorem hit_out {l:List It}{n:Int}(h:l.length≤place l n):hit l n=false:=by
 unfold hit;rw[List.getElem?_eq_none h]
theorem hit_lt {l:List It}{n:Int}(h:hit l n=true):place l n < l.length:=by
 rcases Nat.lt_or_ge (place l n) l.length with h'|h'
 ·exact h'
 ·rw[hit_out h'] at h;cases h
theorem lay_hit {l:List It}{i:It}(h:hit l i.num=true):lay l i=l.take (place l i.num)++i::l.drop (place l i.num+1):=by
 unfold lay;rw[if_pos h]
theorem lay_miss {l:List It}{i:It}(h:hit l i.num=false):lay l i=l.take (place l i.num)++i::l.drop (place l i.num):=by
 unfold lay;rw[if_neg (by simp[h])];rfl
theorem lay_len_hit {l:List It}{i:It}(h:hit l i.num=true):(lay l i).length=l.length:=by
 have:=hit_lt h;rw[lay_hit h];simp;omega
theorem lay_len_miss {l:List It}{i:It}(h:hit l i.num=false):(lay l i).length=l.length+1:=by
 have:=place_le l i.num;rw[lay_miss h];simp;omega
theorem lay_mem {l:List It}{i x:It}(h:x∈lay l i):x=i∨x∈l:=by
 unfold lay at h;rcases List.mem_append.1 h with h|h
 ·exact .inr (List.mem_of_mem_take h)
 ·rcases List.mem_cons.1 h with h|h
  ·exact .inl h
  ·exact .inr (List.mem_of_mem_drop h)
end Dk
end
section
open Eng Go.RowKit
namespace Eng
def Ent.two (e f:Ent):Ent:=⟨fun k=>e.blk k∨f.blk k,fun w=>e.is w∧f.is w∧∀k,e.blk k→¬f.blk k,
 fun h k=>⟨e.keep h.1 fun b hb=>k b (.inl hb),f.keep h.2.1 fun b hb=>k b (.inr hb),h.2.2⟩,fun h k hk=>hk.elim (e.lt h.1 k) (f.lt h.2.1 k)⟩
section
variable {S:Nat→Prop}{w w0:World}{L:List Ent}
theorem OwnS.split {e f:Ent}(ho:OwnS S w0 w (.two e f::L)):OwnS S w0 w (e::f::L):=by
 obtain⟨⟨he,hf,hd⟩,hb⟩:=ho.all (.two e f) (by simp);obtain⟨a1,a2⟩:=List.pairwise_cons.1 ho.apart;refine⟨ho.grew,fun x hx=>?_,List.pairwise_cons.2 ⟨fun x hx k hk=>?_,List.pairwise_cons.2 ⟨fun x hx k hk=>a1 x hx k (.inr hk),a2⟩⟩⟩
 ·rcases List.mem_cons.1 hx with rfl|hx
  ·exact⟨he,fun k hk=>hb k (.inl hk)⟩
  rcases List.mem_cons.1 hx with rfl|hx
  ·exact⟨hf,fun k hk=>hb k (.inr hk)⟩
  ·exact ho.all x (List.mem_cons_of_mem _ hx)
 ·rcases List.mem_cons.1 hx with rfl|hx
  ·exact hd k hk
  ·exact a1 x hx k (.inl hk)
theorem OwnS.two2 {e f:Ent}(ho:OwnS S w0 w L)(i j:Nat)(hij:i≠j)(hi:L[i]?=some e)(hj:L[j]?=some f):OwnS S w0 w [.two e f]:=by
 have h1:=ho.all e (List.mem_of_getElem? hi);have h2:=ho.all f (List.mem_of_getElem? hj);refine⟨ho.grew,fun x hx=>?_,List.pairwise_singleton _ _⟩;rw[List.mem_singleton] at hx;subst hx;exact⟨⟨h1.1,h2.1,OwnS.sep ho i j hij hi hj⟩,fun k hk=>hk.elim (h1.2 k) (h2.2 k)⟩
end
end Eng
section
variable {P:Program}{S:World→Prop}{K:Value→Prop}
theorem hd_do {m:Sem Next}(v:Value)(h:∀w,S w→m.run P w=.ok (.value v) w)(k:K v):HDo P S m K:=⟨v,h,k⟩
theorem hd_pure {m:Sem Next}(v:Value)(h:∀w,m.run P w=.ok (.value v) w)(k:K v):HDo P S m K:=⟨v,fun w _=>h w,k⟩
end
section
variable {w:World}{PK:PKT}{K:VWP}{S:Nat→Prop}{w0:World}{L:List Ent}
theorem m_dcT (o:Ob){vk vc:Value}(hk:vk.oneCell'=true)(hc:vc.oneCell'=true):DoX prog (mBuild 50 #[(1,obV o vk vc)]) w PK K=K (dcV ⟨[],o⟩ nilS vk vc) w:=by
 cases vk<;>first|(cases hk;done)|skip
 all_goals cases vc<;>first|(cases hc;done)|exact do_eq (by kernel_rfl)
theorem o_its1 (i:It){vk vc:Value}(hk:vk.oneCell'=true)(hc:vc.oneCell'=true)(ho:OwnS S w0 w L)(k:∀b w',OwnS S w0 w' (itE b i vk vc::L)→K (.slice (some ⟨b,0,none⟩) 1 1) w'):DoX prog (mBuildS 45 1 #[(0,itV i vk vc)]) w PK K:=by
 cases vk<;>first|(cases hk;done)|skip
 all_goals cases vc<;>first|(cases hc;done)|exact o_new (fun b=>.slice (some ⟨b,0,none⟩) 1 1) (itC i _ _) 89 (fun _=>by kernel_rfl) ho k
theorem sl_one1 {b:Nat}{cs:List Value}{T:TypeId}{sz:Nat}(h:w.heap[b]?=some (.cells cs.toArray T (0,0)))(hsz:0 < sz)(hl:cs.length=sz):Sl w (.slice (some ⟨b,0,none⟩) 1 1) sz 1 cs:=
 ⟨by omega,some ⟨b,0,none⟩,1,rfl,fun h=>(by cases h),fun p hp=>by cases hp;exact⟨fun _=>rfl,fun j u hj=>by rw[Nat.zero_add];exact cells_cell (T:=T) h hj⟩⟩
theorem o_apI (i:Nat){v v2:Value}{n m:Nat}{xs news:List Value}{cb:Array Bool}(ho:OwnS S w0 w L)(hi:L[i]?=some (.urow 89 8 v n xs))(hs:Sl w v2 8 m news)(h1:∀u∈news,u.oneCell'=true)(hb:n+m≤1000000000000)
  (k:∀v' w',OwnS S w0 w' (L.set i (.urow 89 8 v' (n+m) (xs++news)))→K v' w'):DoX prog (mB .append #[45,45] 45 cb #[v,v2]) w PK K:=
 o_appendU i Tryz.underlying45 elIt (by decide) ho hi hs h1 (by omega) (by omega) k
theorem ret_dc {K:Ending→World→Prop}{b:Nat}{d:Dc}{vi vk vc:Value}(i:Nat)(ho:OwnS S w0 w L)(hi:L[i]?=some (dcE b d vi vk vc))(k:K (.returned (dcV d vi vk vc)) w):RetX prog [.cell (.pointer (some ⟨b,0,none⟩)) 50] w K:=
 ret_v1 (rv_cell (ho.agg i hi aggDc)) k
theorem ret_dc2 {K:Ending→World→Prop}{b:Nat}{d:Dc}{vi vk vc x:Value}(i:Nat)(ho:OwnS S w0 w L)(hi:L[i]?=some (dcE b d vi vk vc))(k:K (.returned (.tuple #[dcV d vi vk vc,x])) w):RetX prog [.cell (.pointer (some ⟨b,0,none⟩)) 50,.val x] w K:=
 ret_v2 (rv_cell (ho.agg i hi aggDc)) rv_val k
end
theorem ivs_1 {A:Nat→Prop}{w:World}{i:It}{vk vc:Value}(h:OV A w (obV i.obj vk vc) i.obj):IVs A w (itC i vk vc) [i]:=by
 have:=Rws.cons (R:=itR A w) (a:=itC i vk vc) (rest:=[]) (x:=i) (xs:=[]) ⟨vk,vc,rfl,h⟩ .nil
 rwa [List.append_nil] at this
theorem ivs_app {A:Nat→Prop}{w:World}:∀{cs ds:List Value} {l m:List It},IVs A w cs l→IVs A w ds m→IVs A w (cs++ds) (l++m)
|_,_,_,_,.nil,h=>h
|_,_,_,_,.cons hx t,h=>by
  rw[List.append_assoc,List.cons_append];exact .cons hx (ivs_app t h)
theorem ivs_take {A:Nat→Prop}{w:World}:∀{cs:List Value} {l:List It} (i:Nat),IVs A w cs l→IVs A w (cs.take (i*8)) (l.take i)
|_,_,0,_=>by rw[Nat.zero_mul,List.take_zero,List.take_zero];exact .nil
|_,_,i+1,.nil=>by rw[List.take_nil,List.take_nil];exact .nil
|_,_,i+1,.cons (a:=a) hx t=>by
  have hl:=itR_len _ _ hx;rw[List.take_succ_cons,List.take_append,List.take_of_length_le (by omega),hl,show (i+1)*8 - 8=i*8 by omega];exact .cons hx (ivs_take i t)
theorem ivs_drop {A:Nat→Prop}{w:World}:∀{cs:List Value} {l:List It} (i:Nat),IVs A w cs l→IVs A w (cs.drop (i*8)) (l.drop i)
|_,_,0,h=>by rw[Nat.zero_mul,List.drop_zero,List.drop_zero];exact h
|_,_,i+1,.nil=>by rw[List.drop_nil,List.drop_nil];exact .nil
|_,_,i+1,.cons (a:=a) hx t=>by
  have hl:=itR_len _ _ hx;rw[List.drop_succ_cons,List.drop_append,List.drop_eq_nil_of_le (by omega),hl,show (i+1)*8 - 8=i*8 by omega,List.nil_append];exact ivs_drop i t
theorem fresh_ret (d:Dc)(dv:Value)(M:Mem)(w:World)(hd:Dk.Ok d)(hM:M.has w)(hdv:DV M.A M.w dv d) :
  Ret prog 135 #[dv] w (fun r w'=>∃e',(∃(N:Mem) (vi vk vc:Value) (cs:List Value),e'=Ent.two (.urow 89 8 vi d.items.length cs) (.mem N)∧r=dcV d vi vk vc∧M.le N∧OV N.A N.w (obV d.trailer vk vc) d.trailer∧IVs N.A N.w cs d.items)∧Turn (.mem M) e' w w'):=by
 obtain⟨vi,tk,tc,cs,rfl,hda⟩:=hdv;have htw:=hd.trailer;have hlen:=hd.len;refine ret_of fun K hK=>S_docs_fresh_ok ?_;unfold S_docs_fresh;refine o_dcb d hda.items.one hda.trailer.oneK hda.trailer.oneC (OwnS.memS hM) fun b1 w1 ho=>?_;refine o_dca ho fun b2 w2 ho=>?_;rw[fa_d1,dc_tr ho 1 rfl];refine c_mem ho 2 rfl (clone_ret d.trailer _ M w2 (by omega) (ho.hasM 2 rfl) hda.trailer) fun y N w3 hle hy ho=>?_;obtain⟨yk,yc,ycs,rfl,hya⟩:=hy.open;rw[m_dcT d.trailer hy.oneK hy.oneC];refine o_dca ho fun b3 w4 ho=>?_;refine dc_put (d':=⟨[],d.trailer⟩) 0 rfl hy.oneK hy.oneC ho rfl fun w5 ho=>?_;rw[fa_d0,dc_items ho 2 rfl,sl_len Tryz.underlying45 (hda.items.now (Mem.has_of hle (ho.hasM 3 rfl)))];have ho:OwnS M.A w w5 [.urow 89 8 nilS 0 [],dcE b3 ⟨[],d.trailer⟩ nilS yk yc,dcE b2 Dk.dc0 nilS nilS nilS,dcE b1 d vi tk tc,.mem N]:=ho.nilU _ _;refine loop (fun vs W=>∃(i:Nat) (N:Mem) (v:Value) (ds:List Value),vs=[.int .i64 i]∧i≤d.items.length∧M.le N∧OV N.A N.w (obV d.trailer yk yc) d.trailer∧IVs N.A N.w ds (d.items.take i) ∧
   OwnS M.A w W [.urow 89 8 v i ds,dcE b3 ⟨[],d.trailer⟩ v yk yc,dcE b2 Dk.dc0 nilS nilS nilS,dcE b1 d vi tk tc,.mem N]) (fun vs _=>d.items.length - n0 vs)
  ⟨0,N,nilS,[],rfl,by omega,hle,hy,.nil,ho⟩ ?_
 clear ho;rintro vs w6 ⟨i,N,v,ds,rfl,hi,hle,hy,hds,ho⟩ _;simp only[S_docs_fresh_0,gd,rs];have hv1:=urow_one (ho.at_ 0 rfl);by_cases hlt:(i:Int) < (d.items.length:Int)
 ·have hi':i < d.items.length:=by omega
  have hwi:=hd.items _ (List.getElem_mem hi');simp only[hlt,decide_true,i_t];obtain⟨xk,xc,bi,oi,hx,hr⟩:=item_at hda.items hda.all hi';obtain⟨r1,r2⟩:=hr w6 (Mem.has_of hle (ho.hasM 4 rfl));refine do_eq r1 |>.mpr (do_eq (run_it r2) |>.mpr ?_);refine o_ita ho fun b6 w7 ho=>?_;refine it_put 0 hx.oneK hx.oneC ho rfl fun w8 ho=>?_;have ho:OwnS M.A w w8 [itE b6 d.items[i] xk xc,.urow 89 8 v i ds,dcE b3 ⟨[],d.trailer⟩ v yk yc,dcE b2 Dk.dc0 nilS nilS nilS,dcE b1 d vi tk tc,.mem N]:=ho;have ho:=ho.drew;refine⟨fun W=>(dcE b3 ⟨[],d.trailer⟩ v yk yc).is W∧(itE b6 d.items[i] xk xc).is W,⟨ho.at_ 2 rfl,ho.at_ 0 rfl⟩,?_⟩;refine hd_pure _ (fun _=>run_fa fo_d0) ?_;refine hd_do v (fun W h=>run_load_cell nSlIt (cells_cell (T:=50) h.1 (i:=0) rfl)) ?_;refine hd_do (itV d.items[i] xk xc) (fun W h=>run_load_at (AtV.agg aggIt (cs:=itC d.items[i] xk xc) rfl fun j u hj=>by rw[Nat.zero_add];exact cells_cell (T:=89) h.2 hj)) ?_;refine c_mem ho 5 rfl (copied_ret d.items[i] N _ (by omega) (ho.hasM 5 rfl) (hx.le hle)) ?_;rintro _ N2 w9 hle2 ⟨zk,zc,rfl,hz⟩ ho;refine⟨⟨ho.at_ 2 rfl,ho.at_ 0 rfl⟩,?_⟩;refine o_its1 d.items[i] hz.oneK hz.oneC ho fun b7 w10 ho=>?_;refine⟨⟨ho.at_ 3 rfl,ho.at_ 1 rfl⟩,?_⟩;refine o_apI 2 ho rfl (sl_one1 (ho.at_ 0 rfl) (by decide) rfl) (itC_one _ hz.oneK hz.oneC) (by omega) fun v' w11 ho=>?_;refine⟨⟨ho.at_ 3 rfl,ho.at_ 1 rfl⟩,?_⟩;refine hd_pure _ (fun _=>run_fa fo_d0) ?_;refine o_store 3 ho rfl (by kernel_rfl) (urow_one (ho.at_ 2 rfl)) (show 0 < 7 by omega) fun w12 ho=>?_;have ho:OwnS M.A w w12 [itE b7 d.items[i] zk zc,itE b6 d.items[i] xk xc,.urow 89 8 v' (i+1) (ds++itC d.items[i] zk zc),dcE b3 ⟨[],d.trailer⟩ v' yk yc,dcE b2 Dk.dc0 nilS nilS nilS,dcE b1 d vi tk tc,.mem N2]:=ho;rw[wrap64_id (by omega) (by omega)];refine nextX ⟨i+1,N2,v',_,rfl,by omega,hle.trans hle2,hy.le hle2,?_,ho.tail.tail⟩ (by simp[n0,RowKit.intOf];omega);rw[List.take_succ_eq_append_getElem hi'];exact ivs_app (IVs.le hle2 hds) (ivs_1 hz)
 ·have hi':i=d.items.length:=by omega
  subst hi';simp only[hlt,decide_false,i_f];rw[List.take_of_length_le (Nat.le_refl _)] at hds;rw[dc_v ho 1 rfl];refine dc_put 2 hv1 hy.oneK hy.oneC ho rfl fun w7 ho=>?_;refine ret_dc 2 ho rfl (hK _ _ ⟨_,⟨N,v,yk,yc,ds,rfl,rfl,hle,hy,hds⟩,?_⟩);exact OwnS.back (e:=.mem M) (OwnS.two2 ho 0 4 (by omega) rfl rfl)
theorem isnanI_ret (x:Int)(w:World):Ret prog 212 #[.int .i64 x] w (fun v w'=>v=.bool false∧w=w'):=by
 refine ret_of fun K hK=>S_cmp_isNaN_int_ok ?_;unfold S_cmp_isNaN_int;rw[n_int];exact hK _ _ ⟨by simp,rfl⟩
def Dk.cmpI (a b:Int):Int:=if a < b then -1 else if b < a then 1 else 0
theorem ccompare_ret (x y:Int)(w:World):Ret prog 186 #[.int .i64 x,.int .i64 y] w (fun v w'=>v=.int .i64 (Dk.cmpI x y)∧w=w'):=by
 refine ret_of fun K hK=>S_cmp_Compare_int_ok ?_;unfold S_cmp_Compare_int;refine c_eq (isnanI_ret x w) (c_eq (isnanI_ret y w) ?_);simp only[rs];by_cases h1:x < y
 ·simp only[h1,decide_true,i_t];exact hK _ _ ⟨by simp[Dk.cmpI,h1],rfl⟩
 simp only[h1,decide_false,i_f];by_cases h2:y < x
 ·simp only[h2,decide_true,i_t];exact hK _ _ ⟨by simp[Dk.cmpI,h1,h2],rfl⟩
 simp only[h2,decide_false,i_f];exact hK _ _ ⟨by simp[Dk.cmpI,h1,h2],rfl⟩
theorem bynum_plain:plainB prog 164=true:=by kernel_rfl
theorem bynum_ret (i:It)(n:Int){vk vc:Value}(hk:vk.oneCell'=true)(hc:vc.oneCell'=true)(w:World):Ret prog 164 #[itV i vk vc,.int .i64 n] w (fun v w'=>v=.int .i64 (Dk.cmpI i.num n)∧Below w.heap.size w w'):=by
 refine ret_of fun K hK=>S_docs_byNum_ok ?_;unfold S_docs_byNum;refine o_itb i hk hc (Own.start w) fun b w1 ho=>?_;rw[fa_i0,it_num ho 0 rfl];refine c_eq (ccompare_ret i.num n w1) ?_;exact hK _ _ ⟨rfl,ho.done⟩
theorem bsf_ret (l:List It)(n:Int)(vi:Value)(cs:List Value)(M:Mem)(w:World)(hl:l.length≤100000000000)(hr:Dk.Rise l)(hM:M.has w)(hs:SlA M.A M.w vi 8 l.length cs)(hall:IVs M.A M.w cs l) :
  Ret prog 163 #[vi,.int .i64 n,.func (.func 164) #[] #[]] w (fun v w'=>v=.tuple #[.int .i64 (Dk.place l n:Nat),.bool (Dk.hit l n)]∧Below w.heap.size w w'):=by
 refine ret_of fun K hK=>S_slices_BinarySearchFunc_foliant_api_Item_foliant_api_Item_int_ok ?_;unfold S_slices_BinarySearchFunc_foliant_api_Item_foliant_api_Item_int;rw[sl_len Tryz.underlying45 (hs.now hM)];refine loop (fun vs w'=>∃(i j:Nat),vs=[.int .i64 i,.int .i64 j]∧i≤j∧j≤l.length∧(∀m (h:m < l.length),m < i→l[m].num < n)∧(∀m (h:m < l.length),j≤m→¬l[m].num < n)∧OwnS M.A w w' [.mem M]) (fun vs _=>n1 vs - n0 vs)
  ⟨0,l.length,rfl,by omega,by omega,fun m _ h=>by omega,fun m h1 h2=>by omega,OwnS.memS hM⟩ ?_
 rintro vs w2 ⟨i,j,rfl,hij,hj,hlo,hhi,ho⟩ _;have fin:∀{v:Value} {W:World},v=.tuple #[.int .i64 (Dk.place l n:Nat),.bool (Dk.hit l n)]→OwnS M.A w W [.mem M]→K (.returned v) W:=fun hv ho=>hK _ _ ⟨hv,(ho.toGives 0 rfl M.le_refl hM).below⟩;simp only[S_slices_BinarySearchFunc_foliant_api_Item_foliant_api_Item_int_0,gd,rs];by_cases hlt:(i:Int) < (j:Int)
 ·simp only[hlt,decide_true,i_t];rw[wrap64_id (by omega) (by omega),c_int (show (Tryz.prog.underlying 3).isSome=true by kernel_rfl) Tryz.underlying58,b_shr (by omega),shr1 (by omega) (by omega),
   c_int (show (Tryz.prog.underlying 58).isSome=true by kernel_rfl) Tryz.underlying3,wrap64_id (by omega) (by omega)]
  obtain⟨h,hh⟩:∃h:Nat,((i:Int)+(j:Int)) / 2=(h:Int):=⟨(i+j) / 2,by omega⟩;rw[hh];have h1:i≤h:=by omega
  have h2:h < j:=by omega
  have h3:h < l.length:=by omega
  obtain⟨xk,xc,bi,oi,hx,hrd⟩:=item_at hs hall h3;obtain⟨r1,r2⟩:=hrd w2 (ho.hasM 0 rfl);refine do_eq r1 |>.mpr (do_eq (run_it r2) |>.mpr ?_);refine c_val bynum_plain (c_below ho (R:=fun v=>v=.int .i64 (Dk.cmpI l[h].num n)) (bynum_ret l[h] n hx.oneK hx.oneC w2) ?_);rintro _ w3 rfl ho;simp only[rs];by_cases hc:l[h].num < n
  ·have:Dk.cmpI l[h].num n < 0:=by simp[Dk.cmpI,hc]
   simp only[this,decide_true,i_t];rw[wrap64_id (by omega) (by omega)];refine nextX ⟨h+1,j,rfl,by omega,by omega,fun m hm hmi=>?_,hhi,ho⟩ (by simp[n0,n1,RowKit.intOf];omega);rcases Nat.lt_or_ge m h with h4|h4
   ·have:=Dk.rise_get hr h4 h3;omega
   ·have:m=h:=by omega
    subst this;exact hc
  ·have:¬Dk.cmpI l[h].num n < 0:=by unfold Dk.cmpI;rw[if_neg hc];split<;>omega
   simp only[this,decide_false,i_f];refine nextX ⟨i,h,rfl,by omega,by omega,hlo,fun m hm hmi=>?_,ho⟩ (by simp[n0,n1,RowKit.intOf];omega);rcases Nat.lt_or_ge h m with h4|h4
   ·have:=Dk.rise_get hr h4 hm;omega
   ·have:m=h:=by omega
    subst this;exact hc
 ·have he:i=j:=by omega
  subst he;simp only[hlt,decide_false,i_f];have hp:Dk.place l n=i:=Dk.place_at hj hlo (fun h=>hhi i h (Nat.le_refl _));by_cases hn:(i:Int) < (l.length:Int)
  ·have hi':i < l.length:=by omega
   simp only[hn,decide_true,rs];obtain⟨xk,xc,bi,oi,hx,hrd⟩:=item_at hs hall hi';obtain⟨r1,r2⟩:=hrd w2 (ho.hasM 0 rfl);refine do_eq r1 |>.mpr (do_eq (run_it r2) |>.mpr ?_);refine c_val bynum_plain (c_below ho (R:=fun v=>v=.int .i64 (Dk.cmpI l[i].num n)) (bynum_ret l[i] n hx.oneK hx.oneC w2) ?_);rintro _ w3 rfl ho;simp only[rs];refine fin ?_ ho;rw[Dk.hit_at hp hi',hp];have hge:=hhi i hi' (Nat.le_refl _);have:decide (Dk.cmpI l[i].num n=0)=decide (l[i].num=n):=by
    unfold Dk.cmpI;rw[if_neg hge];by_cases h:n < l[i].num
    ·rw[if_pos h,decide_eq_false (by omega),decide_eq_false (by omega)]
    ·rw[if_neg h,decide_eq_true rfl,decide_eq_true (by omega)]
   rw[this]
  ·simp only[hn,decide_false,rs,g_un];refine fin ?_ ho;rw[hp,Dk.hit_out (by omega)]
end
section
open Eng Go.RowKit
theorem IVs.all_le {M:Mem}{w:World}(hM:M.has w){cs:List Value}{l:List It}(h:IVs M.A M.w cs l):IVs (Mem.all w).A (Mem.all w).w cs l:=
 IVs.le (M:=M) (N:=Mem.all w) ⟨fun b hb=>Mem.bd hM hb,hM⟩ h
theorem dlay_ret (l:List It)(v:Value)(cs:List Value)(i:It){vk vc:Value}(M:Mem)(w:World)(hu:(Ent.two (.urow 89 8 v l.length cs) (.mem M)).is w)(hl:l.length≤10000000000)(hw:i.obj.wt≤100000000000)(hr:Dk.Rise l)(hall:IVs M.A M.w cs l)
  (hv:OV M.A M.w (obV i.obj vk vc) i.obj) :
  Ret prog 136 #[v,itV i vk vc] w (fun r w'=>∃e',(∃(N:Mem) (ds:List Value),e'=Ent.two (.urow 89 8 r (Dk.lay l i).length ds) (.mem N)∧M.le N∧IVs N.A N.w ds (Dk.lay l i))∧Turn (Ent.two (.urow 89 8 v l.length cs) (.mem M)) e' w w'):=by
 refine ret_of fun K hK=>S_docs_lay_ok ?_;unfold S_docs_lay;have ho:=(OwnS.lend hu).split;have hcl:cs.length=l.length*8:=Rws.len itR_len hall;refine o_itb i hv.oneK hv.oneC ho fun b w1 ho=>?_;rw[fa_i0,it_num ho 0 rfl];have hsa:SlA (Mem.all w1).A (Mem.all w1).w v 8 l.length cs:=mem_urow (M:=Mem.all w1) (N:=Mem.all w1) rfl (fun k hk=>(Ent.urow 89 8 v l.length cs).lt (ho.at_ 1 rfl) k hk) (ho.at_ 1 rfl);refine c_below ho (R:=fun v=>v=.tuple #[.int .i64 (Dk.place l i.num:Nat),.bool (Dk.hit l i.num)]) (bsf_ret l i.num v cs (Mem.all w1) w1 (by omega) hr (Mem.all_has w1) hsa (IVs.all_le (ho.hasM 2 rfl) hall)) ?_;rintro _ w2 rfl ho;simp only[ex];cases hh:Dk.hit l i.num with
|true=>
  simp only[i_t];have hlt:=Dk.hit_lt hh;rw[it_v ho 0 rfl];refine c_mem ho 2 rfl (copied_ret i M w2 hw (ho.hasM 2 rfl) hv) ?_;rintro _ N w3 hle ⟨yk,yc,rfl,hy⟩ ho;have hu:=ho.at_ 1 rfl;obtain⟨g,cap,rfl⟩:=urow_open hu (by omega);refine do_eq (run_ia Tryz.underlying45 szIt (by omega) (by omega)) |>.mpr ?_;rw[Int.toNat_natCast,Nat.zero_add];refine o_storeU 1 ho rfl (u:=itV i yk yc) (new:=itC i yk yc) rfl szIt (itC_one _ hy.oneK hy.oneC) (by show _+8≤_;omega) fun w4 ho=>?_;have ho:OwnS _ w w4 [itE b i vk vc,.urow 89 8 (.slice (some ⟨g,0,none⟩) l.length cap) l.length (cs.take (Dk.place l i.num*8)++itC i yk yc++cs.drop (Dk.place l i.num*8+8)),.mem N]:=ho;refine hK _ _ ⟨_,⟨N,cs.take (Dk.place l i.num*8)++itC i yk yc++cs.drop (Dk.place l i.num*8+8),rfl,hle,?_⟩,?_⟩
  ·rw[Dk.lay_hit hh,List.append_assoc,show Dk.place l i.num*8+8=(Dk.place l i.num+1)*8 by omega];exact ivs_app (ivs_take _ (IVs.le hle hall)) (ivs_app (ivs_1 hy) (ivs_drop _ (IVs.le hle hall)))
  ·rw[Dk.lay_len_hit hh];exact OwnS.back (OwnS.two2 ho 1 2 (by omega) rfl rfl)
|false=>
  simp only[i_f];have hple:=Dk.place_le l i.num;rw[it_v ho 0 rfl];refine c_mem ho 2 rfl (copied_ret i M w2 hw (ho.hasM 2 rfl) hv) ?_;rintro _ N w3 hle ⟨yk,yc,rfl,hy⟩ ho;refine o_its1 i hy.oneK hy.oneC ho fun nb w4 ho=>?_;refine c_turn 2 ho rfl (sinsert_i_ret v l.length cs (Dk.place l i.num) nb (itC i yk yc) w4 (ho.at_ 2 rfl) (ho.at_ 0 rfl) rfl (fun h=>(OwnS.sep ho 2 0 (by omega) rfl rfl) nb h rfl) (IVs.one hall) (itC_one _ hy.oneK hy.oneC) hple (by omega)) ?_;rintro r e' w5 rfl ho;have ho:OwnS _ w w5 [itE nb i yk yc,itE b i vk vc,.urow 89 8 r (l.length+1) (cs.take (Dk.place l i.num*8)++itC i yk yc++cs.drop (Dk.place l i.num*8)),.mem N]:=ho;refine hK _ _ ⟨_,⟨N,cs.take (Dk.place l i.num*8)++itC i yk yc++cs.drop (Dk.place l i.num*8),rfl,hle,?_⟩,?_⟩
  rotate_left
  ·rw[Dk.lay_len_miss hh];exact OwnS.back (OwnS.two2 ho 2 3 (by omega) rfl rfl)
  ·rw[Dk.lay_miss hh,List.append_assoc];exact ivs_app (ivs_take _ (IVs.le hle hall)) (ivs_app (ivs_1 hy) (ivs_drop _ (IVs.le hle hall)))
theorem dtold_ret (d:Dc)(dv:Value)(M:Mem)(w:World)(hd:Dk.Ok d)(hM:M.has w)(hdv:DV M.A M.w dv d) :
  RetM prog 137 #[dv] M w (fun r N=>∃v',r=errV v' (Dk.right d).2∧DV N.A N.w v' (Dk.right d).1):=by
 obtain⟨vi,tk,tc,cs,rfl,hda⟩:=hdv;refine retM_of hM fun K hK=>S_docs_told_ok ?_;unfold S_docs_told;refine o_dcb d hda.items.one hda.trailer.oneK hda.trailer.oneC (OwnS.memS hM) fun b w1 ho=>?_;refine o_dca ho fun b2 w2 ho=>?_;rw[dc_v ho 1 rfl];refine c_below ho (R:=fun v=>v=.int .i64 (Dk.check d)) (RetM.told (dcheck_ret d _ M w2 hd (ho.hasM 2 rfl) hda.dv)) ?_;rintro _ w3 rfl ho;simp only[n_err];by_cases hc:Dk.check d=0
 ·simp only[hc,ne_eq,not_true,decide_false,i_f];rw[dc_v ho 1 rfl];refine dc_put 0 hda.items.one hda.trailer.oneK hda.trailer.oneC ho rfl fun w4 ho=>?_;refine ret_dc2 0 ho rfl (hK _ _ M _ 2 ho rfl M.le_refl ⟨dcV d vi tk tc,?_,?_⟩)
  ·unfold Dk.right;rw[if_neg (by simp[hc])];rfl
  ·unfold Dk.right;rw[if_neg (by simp[hc])];exact hda.dv
 ·simp only[hc,ne_eq,not_false_eq_true,decide_true,i_t];rw[m_dc0];refine dc_put 0 rfl rfl rfl ho rfl fun w4 ho=>?_;refine ret_dc2 0 ho rfl (hK _ _ M _ 2 ho rfl M.le_refl ⟨dcV Dk.dc0 nilS nilS nilS,?_,?_⟩)
  ·unfold Dk.right;rw[if_pos hc];rfl
  ·unfold Dk.right;rw[if_pos hc];exact (dc0_at M).dv
theorem Dk.lay_ok {d:Dc}{i:It}(hd:Dk.Ok d)(hl:d.items.length < 10000000000)(hw:i.obj.wt≤1000000000):Dk.Ok ⟨Dk.lay d.items i,d.trailer⟩:=by
 refine⟨?_,fun x hx=>?_,hd.trailer⟩
 ·show (Dk.lay d.items i).length≤_;cases hh:Dk.hit d.items i.num with
 |true=>rw[Dk.lay_len_hit hh];omega
 |false=>rw[Dk.lay_len_miss hh];omega
 ·rcases Dk.lay_mem hx with rfl|hx
  ·exact hw
  ·exact hd.items x hx
theorem dput_ret (d:Dc)(i:It)(dv iv:Value)(M:Mem)(w:World)(hd:Dk.Ok d)(hl:d.items.length < 10000000000)(hw:i.obj.wt≤1000000000)(hM:M.has w)(hdv:DV M.A M.w dv d)(hiv:IV M.A M.w iv i) :
  RetM prog 106 #[dv,iv] M w (fun r N=>∃v',r=errV v' (Dk.put d i).2∧DV N.A N.w v' (Dk.put d i).1):=by
 have hdv0:=hdv;obtain⟨vi,tk,tc,cs,rfl,hda⟩:=hdv;obtain⟨vk,vc,rfl,hv⟩:=hiv;refine retM_of hM fun K hK=>S_docs_Put_ok ?_;unfold S_docs_Put;refine o_dcb d hda.items.one hda.trailer.oneK hda.trailer.oneC (OwnS.memS hM) fun b2 w1 ho=>?_;refine o_itb i hv.oneK hv.oneC ho fun b3 w2 ho=>?_;refine o_dca ho fun b4 w3 ho=>?_;have bad:∀{W:World} {e:Int},OwnS M.A w W [dcE b4 Dk.dc0 nilS nilS nilS,itE b3 i vk vc,dcE b2 d vi tk tc,.mem M]→Dk.put d i=(Dk.dc0,e) →
   DoX prog (mBuild 50 #[]) W (pk K) (fun t W=>DoX prog (mStore 50 (.pointer (some ⟨b4,0,none⟩)) t) W (pk K) fun _ W=>RetX prog [.cell (.pointer (some ⟨b4,0,none⟩)) 50,.val (.int .i64 e)] W K):=by
  intro W e ho he;rw[m_dc0];refine dc_put 0 rfl rfl rfl ho rfl fun w4 ho=>?_;exact ret_dc2 0 ho rfl (hK _ _ M _ 3 ho rfl M.le_refl ⟨dcV Dk.dc0 nilS nilS nilS,by rw[he];rfl,by rw[he];exact (dc0_at M).dv⟩)
 rw[dc_v ho 2 rfl];refine c_below ho (R:=fun v=>v=.int .i64 (Dk.check d)) (RetM.told (dcheck_ret d _ M w3 hd (ho.hasM 3 rfl) hda.dv)) ?_;rintro _ w4 rfl ho;simp only[n_err];by_cases hc:Dk.check d=0
 case neg=>
  simp only[hc,ne_eq,not_false_eq_true,decide_true,i_t];exact bad ho (by unfold Dk.put;rw[if_pos hc])
 simp only[hc,ne_eq,not_true,decide_false,i_f];rw[it_v ho 1 rfl];refine c_below ho (R:=fun v=>v=.int .i64 (Dk.alone i)) (RetM.told (alone_ret i M w4 (by omega) (ho.hasM 3 rfl) hv)) ?_;rintro _ w5 rfl ho;simp only[n_err];by_cases ha:Dk.alone i=0
 case neg=>
  simp only[ha,ne_eq,not_false_eq_true,decide_true,i_t];exact bad ho (by unfold Dk.put;rw[if_neg (by simp[hc]),if_pos ha])
 simp only[ha,ne_eq,not_true,decide_false,i_f];have hp:Dk.put d i=Dk.right ⟨Dk.lay d.items i,d.trailer⟩:=by unfold Dk.put;rw[if_neg (by simp[hc]),if_neg (by simp[ha])]
 rw[dc_v ho 2 rfl];refine c_turn 3 ho rfl (fresh_ret d _ M w5 hd (ho.hasM 3 rfl) hda.dv) ?_;rintro _ _ w6 ⟨N,fi,fk,fc,ds,rfl,rfl,hle,hft,hfa⟩ ho;have hfi1:=urow_one (ho.at_ 3 rfl).1;refine dc_put 2 hfi1 hft.oneK hft.oneC ho rfl fun w7 ho=>?_;rw[fa_d0,dc_items ho 2 rfl,it_v ho 1 rfl];refine c_turn 3 ho rfl (dlay_ret d.items fi ds i N w7 (ho.at_ 3 rfl) hd.len (by omega) (Dk.check_rise hc) hfa (hv.le hle)) ?_;rintro r _ w8 ⟨N2,es,rfl,hle2,hla⟩ ho;have hr1:=urow_one (ho.at_ 3 rfl).1;rw[fa_d0];refine o_store 2 ho rfl (by kernel_rfl) hr1 (show 0 < 7 by omega) fun w9 ho=>?_;have ho:OwnS M.A w w9 [dcE b4 Dk.dc0 nilS nilS nilS,itE b3 i vk vc,dcE b2 ⟨Dk.lay d.items i,d.trailer⟩ r fk fc,Ent.two (.urow 89 8 r (Dk.lay d.items i).length es) (.mem N2)]:=ho;have ho:=(ho.perm (L':=[Ent.two (.urow 89 8 r (Dk.lay d.items i).length es) (.mem N2),dcE b4 Dk.dc0 nilS nilS nilS,itE b3 i vk vc,dcE b2 ⟨Dk.lay d.items i,d.trailer⟩ r fk fc]) (List.perm_append_comm (l₁:=[_,_,_]) (l₂:=[_]))).split;obtain⟨N3,hle3,hrow,ho⟩:=OwnS.freezeU (L:=[.mem N2,dcE b4 Dk.dc0 nilS nilS nilS,itE b3 i vk vc,dcE b2 ⟨Dk.lay d.items i,d.trailer⟩ r fk fc]) ho 0 rfl;have ho:OwnS M.A w w9 [.mem N3,dcE b4 Dk.dc0 nilS nilS nilS,itE b3 i vk vc,dcE b2 ⟨Dk.lay d.items i,d.trailer⟩ r fk fc]:=ho;have hnew:DocAt N3.A N3.w ⟨Dk.lay d.items i,d.trailer⟩ r fk fc es:=⟨hrow,IVs.le hle3 hla,hft.le (hle2.trans hle3)⟩;rw[dc_v ho 3 rfl];refine c_mem ho 0 rfl (dtold_ret ⟨Dk.lay d.items i,d.trailer⟩ _ N3 w9 (Dk.lay_ok hd hl hw) (ho.hasM 0 rfl) hnew.dv) ?_;rintro _ N4 w10 hle4 ⟨y,rfl,hy⟩ ho;obtain⟨yi,yk,yc,ys,rfl,hya⟩:=hy;simp only[errV,ex];refine dc_put 1 hya.items.one hya.trailer.oneK hya.trailer.oneC ho rfl fun w11 ho=>?_;exact ret_dc2 1 ho rfl (hK _ _ N4 _ 0 ho rfl (((hle.trans hle2).trans hle3).trans hle4) ⟨dcV (Dk.right ⟨Dk.lay d.items i,d.trailer⟩).1 yi yk yc,by rw[hp];rfl,by rw[hp];exact hya.dv⟩)
end
end Go.Proofs.YtmkodaephgnehaaGreatDoor

namespace Go.Proofs.YtmkodaephgnehaaGreatDoor
section
open Eng Go.RowKit
def obs (l:List (Ob×Value)):List Value:=l.flatMap fun x=>obC x.1 nilS x.2
def kE (b:Nat):Ent:=.cells b (obs [(ob1 5 0 0 [120],nilS),(ob1 4 0 0 [121],nilS),(ob1 8 2 0 [],nilS)]) 48
section
variable {w W:World}{bL bK d:Nat}{a b:Option Nat}{PK:PKT}{K:VWP}
end
end
end Go.Proofs.YtmkodaephgnehaaGreatDoor

namespace Go.Proofs.YtmkodaephgnehaaGreatDoor
section
open Eng Go.RowKit Go.ChangeShapes Go.WideShapes Go.ChangeAt
set_option maxRecDepth 100000
section
variable {H:Type}{enc:TypeId×Value→H}{W:World}{sp:Nat→Bool}{held:Bool}
theorem bulk2 {d e:DataW H}(hk:Rows.uptoSmall H [d,e]=true):Rows.uptoBulk d≤1048576∧Rows.uptoBulk e≤1048576:=by
 have h:Rows.uptoBulkAll [d,e]≤1048576:=of_decide_eq_true hk;simp only[Rows.uptoBulkAll] at h;omega
end
end
end Go.Proofs.YtmkodaephgnehaaGreatDoor











namespace Go.Proofs.YtmkodaephgnehaaGreatDoor
section
open Go
namespace Vl
theorem not_mem_take {l:List (List UInt8)}{key:List UInt8}:key ∉ l.take (place l key):=by
 intro h;obtain⟨m,hm,he⟩:=List.getElem_of_mem h;rw[List.length_take] at hm;have hlt:m < place l key:=by omega
 have:=place_lt hlt;rw[List.getElem_take] at he;rw[he,less_irrefl] at this;cases this
theorem get_put {o:Ob}{key:List UInt8}{v:Ob}(hk:keyed o=true)(hl:o.keys.length=o.kids.length):get (put o key v) key=some v:=by
 have hp:=place_le o.keys key;unfold get;rw[show keyed (put o key v)=keyed o from rfl,hk,if_pos rfl];have e:(put o key v).keys=o.keys.take (place o.keys key)++key::o.keys.drop (place o.keys key+if hit o.keys key then 1 else 0):=rfl;have e2:(put o key v).kids=o.kids.take (place o.keys key)++v::o.kids.drop (place o.keys key+if hit o.keys key then 1 else 0):=rfl;have hi:(put o key v).keys.idxOf key=place o.keys key:=by
  rw[e];refine idx_at (by simp;omega) ?_ ?_
  ·rw[List.take_left' (by rw[List.length_take];omega)];exact not_mem_take
  ·rw[List.getElem_append_right (by rw[List.length_take];omega)];simp[List.length_take,Nat.min_eq_left hp]
 rw[hi,if_pos (by rw[e];simp;omega),e2,List.getElem?_append_right (by rw[List.length_take];omega),List.length_take];have:place o.keys key - min (place o.keys key) o.kids.length=0:=by omega
 rw[this];rfl
theorem checks_iff {d:Nat}:∀{os:List Ob},checks d os=0↔∀o∈os,check d o=0
|[]=>by simp[checks]
|o::os=>by
  rw[checks];split
  ·rename_i h
   constructor
   ·intro e;exact absurd e h
   ·intro e;exact absurd (e o List.mem_cons_self) h
  ·rename_i h
   have h:=Classical.not_not.1 h;rw[checks_iff];simp[h]
theorem gd_at (l:List (List UInt8)){i:Nat}(h:i < l.length):l.getD i []=l[i]:=by rw[List.getD_eq_getElem?_getD,List.getElem?_eq_getElem h];rfl
theorem rising_iff {o:Ob}:rising o=true↔o.keys.length=o.kids.length∧Rise o.keys∧(∀k∈o.keys,name k=true∧(o.k=9→k≠lenK))∧∀c∈o.kids,c.k≠0:=by
 unfold rising;simp only[Bool.and_eq_true,decide_eq_true_eq,List.all_eq_true,List.mem_range];constructor
 ·rintro⟨hl,h⟩;have hat:∀i (hi:i < o.keys.length),name o.keys[i]=true∧(i=0∨less (o.keys.getD (i - 1) []) o.keys[i]=true)∧(o.k=9→o.keys[i]≠lenK)∧(o.kids[i]'(by omega)).k≠0:=by
   intro i hi;have:=h i hi;unfold keyAt at this;rw[gd_at _ hi,List.getD_eq_getElem?_getD (l:=o.kids),List.getElem?_eq_getElem (by omega:i < o.kids.length)] at this;simp only[Bool.and_eq_true,Bool.or_eq_true,decide_eq_true_eq,Option.getD_some,Bool.not_eq_true',Bool.and_eq_false_iff,decide_eq_false_iff_not] at this;obtain⟨⟨⟨a,b⟩,c⟩,e⟩:=this;exact⟨a,b,fun h9 hk=>c.elim (fun x=>x h9) (fun x=>x hk),e⟩
  refine⟨hl,?_,?_,?_⟩
  ·refine List.pairwise_iff_getElem.2 fun i j hi hj hij=>?_;have step:∀i (hi:i+1 < o.keys.length),less o.keys[i] o.keys[i+1]=true:=by
    intro i hi;have:=(hat (i+1) hi).2.1;rcases this with h0|h0
    ·omega
    ·rwa [Nat.add_sub_cancel,gd_at _ (by omega:i < o.keys.length)] at h0
   have:∀d,∀j (hj:j < o.keys.length),j=i+1+d→less o.keys[i] o.keys[j]=true:=by
    intro d
    induction d with
   |zero=>intro j hj he;subst he;exact step i hj
   |succ d ih=>
     intro j hj he;subst he;exact less_trans (ih (i+1+d) (by omega) rfl) (step (i+1+d) hj)
   exact this (j - (i+1)) j hj (by omega)
  ·intro k hk;obtain⟨i,hi,rfl⟩:=List.getElem_of_mem hk;exact⟨(hat i hi).1,(hat i hi).2.2.1⟩
  ·intro c hc;obtain⟨i,hi,rfl⟩:=List.getElem_of_mem hc;exact (hat i (by omega)).2.2.2
 ·rintro⟨hl,hr,hk,hc⟩;refine⟨hl,fun i hi=>?_⟩;unfold keyAt;rw[gd_at _ hi,List.getD_eq_getElem?_getD (l:=o.kids),List.getElem?_eq_getElem (by omega:i < o.kids.length)];simp only[Bool.and_eq_true,Bool.or_eq_true,decide_eq_true_eq,Option.getD_some,Bool.not_eq_true',Bool.and_eq_false_iff,decide_eq_false_iff_not];refine⟨⟨⟨(hk _ (List.getElem_mem hi)).1,?_⟩,?_⟩,hc _ (List.getElem_mem _)⟩
  ·rcases Nat.eq_zero_or_pos i with h0|h0
   ·exact .inl h0
   ·refine .inr ?_;rw[gd_at _ (by omega:i - 1 < o.keys.length)];exact rise_get hr (by omega) hi
  ·by_cases h9:o.k=9
   ·exact .inr ((hk _ (List.getElem_mem hi)).2 h9)
   ·exact .inl h9
theorem check_iff {d:Nat}{o:Ob}:check d o=0↔(d≤24∧usesOk o=true∧(o.k=9→d≤1)∧fits o=true∧o.s.length≤long o.k∧o.kids.length≤8191∧form o=true)∧∀c∈o.kids,check (d+1) c=0:=by
 rw[check_eq];have hw:why d o=0↔(d≤24∧usesOk o=true∧(o.k=9→d≤1)∧fits o=true∧o.s.length≤long o.k∧o.kids.length≤8191∧form o=true):=by
  unfold why;split
  ·simp;omega
  rename_i h1
  split
  ·rename_i h2
   simp only[show (10:Int)≠0 by decide,false_iff,not_and];rintro - a b;rcases h2 with h2|h2
   ·rw[h2] at a;cases a
   ·have:=b h2.1;omega
  rename_i h2
  simp only[not_or,Bool.not_eq_false,not_and,Nat.not_lt] at h2;split
  ·rename_i h3;simp[h3]
  rename_i h3
  split
  ·rename_i h4;simp;intros;omega
  rename_i h4
  split
  ·rename_i h5;simp;intros;omega
  rename_i h5
  split
  ·rename_i h6;simp[h6]
  rename_i h6
  simp only[Bool.not_eq_false] at h3 h6;exact⟨fun _=>⟨by omega,h2.1,h2.2,h3,by omega,by omega,h6⟩,fun _=>rfl⟩
 split
 ·rename_i h
  constructor
  ·intro e;exact absurd e h
  ·intro e;exact absurd (hw.2 e.1) h
 ·rename_i h
  have h:=Classical.not_not.1 h;rw[checks_iff];exact⟨fun e=>⟨hw.1 h,e⟩,fun e=>e.2⟩
end Vl
namespace Dk
end Dk
end
end Go.Proofs.YtmkodaephgnehaaGreatDoor



namespace Go.Proofs.YtmkodaephgnehaaGreatDoor
section
open Go
namespace Ps
open Lx (next Tok)
theorem put_mem {o v:Ob}{key:List UInt8}:(∀k∈(Vl.put o key v).keys,k=key∨k∈o.keys)∧(∀c∈(Vl.put o key v).kids,c=v∨c∈o.kids)∧(Vl.put o key v).kids.length≤o.kids.length+1:=by
 unfold Vl.put;simp only[Ob.keys,Ob.kids];refine⟨fun k hk=>?_,fun c hc=>?_,?_⟩
 ·rcases List.mem_append.1 hk with h|h
  ·exact .inr (List.mem_of_mem_take h)
  ·rcases List.mem_cons.1 h with h|h
   ·exact .inl h
   ·exact .inr (List.mem_of_mem_drop h)
 ·rcases List.mem_append.1 hc with h|h
  ·exact .inr (List.mem_of_mem_take h)
  ·rcases List.mem_cons.1 h with h|h
   ·exact .inl h
   ·exact .inr (List.mem_of_mem_drop h)
 ·simp only[List.length_append,List.length_take,List.length_cons,List.length_drop];split<;>omega
end Ps
end
end Go.Proofs.YtmkodaephgnehaaGreatDoor


namespace Go.Proofs.YtmkodaephgnehaaGreatDoor
section
open Go
namespace Vl
def lk (k:List UInt8):List (List UInt8)→List Ob→Option Ob
|a::ks,c::cs=>if a=k then some c else lk k ks cs
|_,_=>none
theorem lk_eq (k:List UInt8):∀(ks:List (List UInt8)) (cs:List Ob),(if ks.idxOf k < ks.length then cs[ks.idxOf k]? else none)=lk k ks cs
|[],cs=>by simp[lk]
|a::ks,[]=>by simp[lk]
|a::ks,c::cs=>by
  rw[lk,←lk_eq k ks cs,List.idxOf_cons];by_cases h:a=k
  ·subst h;simp
  ·have hb:(a==k)=false:=by simpa using h
   simp[hb,h]
theorem lk_app {k:List UInt8}:∀{ks:List (List UInt8)} {cs:List Ob} (ks':List (List UInt8)) (cs':List Ob),ks.length=cs.length→lk k (ks++ks') (cs++cs')=(lk k ks cs).or (lk k ks' cs')
|[],[],_,_,_=>by simp[lk]
|[],c::cs,_,_,h=>by simp at h
|a::ks,[],_,_,h=>by simp at h
|a::ks,c::cs,ks',cs',h=>by
  rw[List.cons_append,List.cons_append,lk,lk,lk_app ks' cs' (by simpa using h)];split<;>rfl
theorem get_put_ne {o:Ob}{key k:List UInt8}{v:Ob}(hl:o.keys.length=o.kids.length)(hne:key≠k):get (put o key v) k=get o k:=by
 unfold get;rw[show keyed (put o key v)=keyed o from rfl,lk_eq,lk_eq]
 congr 1
 have hp:=place_le o.keys key;rw[show (put o key v).keys=o.keys.take (place o.keys key)++key::o.keys.drop (place o.keys key+if hit o.keys key then 1 else 0) from rfl,
  show (put o key v).kids=o.kids.take (place o.keys key)++v::o.kids.drop (place o.keys key+if hit o.keys key then 1 else 0) from rfl,
  lk_app _ _ (by rw[List.length_take,List.length_take];omega),lk,if_neg hne]
 conv=>rhs;rw[←List.take_append_drop (place o.keys key) o.keys,←List.take_append_drop (place o.keys key) o.kids,lk_app _ _ (by rw[List.length_take,List.length_take];omega)]
 congr 1
 by_cases hh:hit o.keys key=true
 ·rw[if_pos hh];have hg:o.keys[place o.keys key]?=some key:=by simpa[hit] using hh
  obtain⟨hlt,hg⟩:=List.getElem?_eq_some_iff.1 hg;rw[List.drop_eq_getElem_cons (i:=place o.keys key) hlt,List.drop_eq_getElem_cons (i:=place o.keys key) (l:=o.kids) (by omega),lk,if_neg (by rw[hg];exact hne)]
 ·rw[if_neg hh];rfl
end Vl
namespace Dk
end Dk
namespace Pg
section
variable {d:Dc}{j:It}{o o':Ob}
end
end Pg
end
section
open Go
namespace Vl
theorem get_out {o:Ob}{key:List UInt8}(h:key ∉ o.keys):get o key=none:=by
 unfold get;split
 ·rw[if_neg (fun h2=>h (List.idxOf_lt_length_iff.1 h2))]
 ·rfl
theorem put_check {o:Ob}{key:List UInt8}{v:Ob}(hc:check 1 o=0)(hk:keyed o=true)(hn:name key=true)(hL:o.k=9→key≠lenK)(hv:v.k≠0)(hcv:check 2 v=0)(hf:o.kids.length≤8190):check 1 (put o key v)=0:=by
 obtain⟨⟨a1,a2,a3,a4,a5,a6,a7⟩,hkids⟩:=check_iff.1 hc;have h79:o.k=7∨o.k=9:=by simpa[keyed] using hk
 have hr:rising o=true:=by
  unfold form at a7;simp only[Bool.and_eq_true,Bool.or_eq_true,Bool.not_eq_true',decide_eq_false_iff_not] at a7;rcases a7.2 with h|h
  ·exact absurd h79 h
  ·exact h
 obtain⟨r1,r2,r3,r4⟩:=rising_iff.1 hr;obtain⟨p1,p2⟩:=rise_put (key:=key) (v:=v) r2 r1;obtain⟨m1,m2,m3⟩:=Ps.put_mem (o:=o) (v:=v) (key:=key);have ek:(put o key v).k=o.k:=rfl;refine check_iff.2 ⟨⟨a1,?_,a3,a4,a5,by omega,?_⟩,fun c hcm=>?_⟩
 ·unfold usesOk at a2 ⊢;rw[ek];rcases h79 with e|e
  ·rw[e] at a2 ⊢;simp[used] at a2 ⊢;exact a2
  ·rw[e] at a2 ⊢;simp[used] at a2 ⊢;exact a2
 ·have hr2:rising (put o key v)=true:=rising_iff.2 ⟨p2,p1,fun k hkk=>by
   rcases m1 k hkk with rfl|e
   ·exact⟨hn,fun h=>hL h⟩
   ·exact r3 k e,fun c hcc=>by
   rcases m2 c hcc with rfl|e
   ·exact hv
   ·exact r4 c e⟩
  unfold form;rw[ek,hr2];rcases h79 with e|e<;>rw[e]<;>rfl
 ·rcases m2 c hcm with rfl|e
  ·exact hcv
  ·exact hkids c e
end Vl
end
section
open Go
namespace Fo
def kType:List UInt8:=[84,121,112,101]
def kFont:List UInt8:=[70,111,110,116]
def kSub:List UInt8:=[83,117,98,116,121,112,101]
def kT1:List UInt8:=[84,121,112,101,49]
def kBase:List UInt8:=[66,97,115,101,70,111,110,116]
def kFirst:List UInt8:=[70,105,114,115,116,67,104,97,114]
def kWid:List UInt8:=[87,105,100,116,104,115]
def kDesc:List UInt8:=[70,111,110,116,68,101,115,99,114,105,112,116,111,114]
def kFName:List UInt8:=[70,111,110,116,78,97,109,101]
def kMiss:List UInt8:=[77,105,115,115,105,110,103,87,105,100,116,104]
def kEnc:List UInt8:=[69,110,99,111,100,105,110,103]
def kDiff:List UInt8:=[68,105,102,102,101,114,101,110,99,101,115]
def kToU:List UInt8:=[84,111,85,110,105,99,111,100,101]
def nm (s:List UInt8):Ob:=.mk 5 0 0 s [] []
def int (n:Int):Ob:=.mk 2 n 0 [] [] []
def arr (l:List Ob):Ob:=.mk 6 0 0 [] [] l
abbrev Pr:=List UInt8×Ob
def flatP (l:List Pr):List Ob:=l.flatMap fun p=>[nm p.1,p.2]
def ob7:Ob:=.mk 7 0 0 [] [] []
def mkD (l:List Pr):Ob:=l.foldl (fun o p=>Vl.put o p.1 p.2) ob7
def wtP (l:List Pr):Nat:=(l.map fun p=>p.1.length+1+p.2.wt).sum
theorem flatP_cons (p:Pr)(l:List Pr):flatP (p::l)=nm p.1::p.2::flatP l:=by unfold flatP;rw[List.flatMap_cons];rfl
theorem flatP_len:∀l:List Pr,(flatP l).length=2*l.length
|[]=>rfl
|p::l=>by rw[flatP_cons];simp only[List.length_cons];rw[flatP_len l];omega
theorem flatP_names:∀l:List Pr,Vl.namesOk (flatP l)=true
|[]=>rfl
|p::l=>by
  rw[flatP_cons,Vl.namesOk,flatP_names l];show (decide ((5:Int)=5)&&true)=true
  decide
theorem dictG_flat:∀(l:List Pr) (met:List (List UInt8)) (o:Ob),(l.map (·.1)).Nodup→(∀p∈l,p.1 ∉ met)→(∀p∈l,p.2.k≠0)→Vl.dictG met o (flatP l)=Vl.right (l.foldl (fun o p=>Vl.put o p.1 p.2) o)
|[],met,o,_,_,_=>rfl
|p::l,met,o,hn,hm,hk=>by
  rw[flatP_cons,Vl.dictG,List.foldl_cons];have hn:p.1 ∉ l.map (·.1)∧(l.map (·.1)).Nodup:=by simpa using hn
  have h1:¬(nm p.1).s∈met:=hm p (List.mem_cons_self ..);rw[if_neg h1,if_pos (hk p (List.mem_cons_self ..))];refine dictG_flat l _ _ hn.2 (fun q hq h=>?_) (fun q hq=>hk q (List.mem_cons_of_mem _ hq));rcases List.mem_append.1 h with h|h
  ·exact hm q (List.mem_cons_of_mem _ hq) h
  ·have e:q.1=p.1:=by simpa[nm,Ob.s] using h
   exact hn.1 (by rw[←e];exact List.mem_map_of_mem hq)
theorem fold_ok:∀(l:List Pr) (o:Ob),Vl.check 1 o=0→o.k=7→(l.map (·.1)).Nodup→(∀p∈l,Vl.name p.1=true∧p.2.k≠0∧Vl.check 2 p.2=0)→o.kids.length+l.length≤8190 →
  Vl.check 1 (l.foldl (fun o p=>Vl.put o p.1 p.2) o)=0∧(l.foldl (fun o p=>Vl.put o p.1 p.2) o).k=7∧(∀p∈l,Vl.get (l.foldl (fun o p=>Vl.put o p.1 p.2) o) p.1=some p.2)∧(∀k,k ∉ l.map (·.1)→Vl.get (l.foldl (fun o p=>Vl.put o p.1 p.2) o) k=Vl.get o k) ∧
  (l.foldl (fun o p=>Vl.put o p.1 p.2) o).wt≤o.wt+wtP l
|[],o,hc,h7,_,_,_=>⟨hc,h7,(fun p h=>by cases h),fun _ _=>rfl,by simp[wtP]⟩
|p::r,o,hc,h7,hn,hp,hl=>by
  have hn:p.1 ∉ r.map (·.1)∧(r.map (·.1)).Nodup:=by simpa using hn
  obtain⟨p1,p2,p3⟩:=hp p (List.mem_cons_self ..);have hk:Vl.keyed o=true:=by unfold Vl.keyed;rw[h7];rfl
  have hl:o.kids.length+(r.length+1)≤8190:=hl;have c:=Vl.put_check (key:=p.1) (v:=p.2) hc hk p1 (fun h=>by rw[h7] at h;exact absurd h (by decide)) p2 p3 (by omega);obtain⟨_,_,m3⟩:=Ps.put_mem (o:=o) (v:=p.2) (key:=p.1);have hv:=(Vl.valid_keys hc hk).2;have gp:=Vl.get_put (key:=p.1) (v:=p.2) hk hv;have gn:∀k,p.1≠k→Vl.get (Vl.put o p.1 p.2) k=Vl.get o k:=fun k hne=>Vl.get_put_ne hv hne;have pw:=Vl.put_wt o p.1 p.2;obtain⟨i1,i2,i3,i4,i5⟩:=fold_ok r (Vl.put o p.1 p.2) c h7 hn.2 (fun q hq=>hp q (List.mem_cons_of_mem _ hq)) (by omega);rw[List.foldl_cons];refine⟨i1,i2,fun q hq=>?_,fun k hk=>?_,?_⟩
  ·rcases List.mem_cons.1 hq with rfl|hq
   ·rw[i4 _ hn.1];exact gp
   ·exact i3 q hq
  ·rw[i4 k (fun h=>hk (by simp[h])),gn k (fun e=>hk (by simp[e]))]
  ·unfold wtP at i5 ⊢;rw[List.map_cons,List.sum_cons];omega
def okP (l:List Pr):Prop:=(l.map (·.1)).Nodup∧(∀p∈l,Vl.name p.1=true∧p.2.k≠0∧Vl.check 2 p.2=0)∧l.length≤8000
theorem ob7_check:Vl.check 1 ob7=0:=by decide
theorem ob7_get (k:List UInt8):Vl.get ob7 k=none:=Vl.get_out (by simp[ob7,Ob.keys])
theorem mkD_ok {l:List Pr}(h:okP l):Vl.check 1 (mkD l)=0∧(mkD l).k=7∧(∀p∈l,Vl.get (mkD l) p.1=some p.2)∧(∀k,k ∉ l.map (·.1)→Vl.get (mkD l) k=none)∧(mkD l).wt≤ob7.wt+wtP l:=by
 obtain⟨i1,i2,i3,i4,i5⟩:=fold_ok l ob7 ob7_check rfl h.1 h.2.1 (by have:=h.2.2;show 0+l.length≤8190;omega);exact⟨i1,i2,i3,fun k hk=>(i4 k hk).trans (ob7_get k),i5⟩
theorem mkD_dict {l:List Pr}(h:okP l):Vl.dict (flatP l)=(mkD l,0):=by
 have h1:=mkD_ok h;unfold Vl.dict;rw[if_neg (by rw[flatP_len];omega),if_neg (by rw[flatP_names];decide)];rw[dictG_flat l [] _ h.1 (fun _ _ h=>by cases h) (fun p hp=>(h.2.1 p hp).2.1)];show Vl.right (mkD l)=_;unfold Vl.right;rw[if_neg (by rw[h1.1];decide)]
theorem named_name {s:List UInt8}{n:Nat}(h:named s n=true):Vl.name s=true:=by
 unfold named at h;simp only[Bool.and_eq_true,decide_eq_true_eq,List.all_eq_true] at h;unfold Vl.name;simp only[Bool.and_eq_true,decide_eq_true_eq];exact⟨h.1.2,fun h0=>h.2 0 h0 rfl⟩
theorem nm_check {s:List UInt8}(h:Vl.name s=true){d:Nat}(hd:d≤24):Vl.check d (nm s)=0:=by
 have hl:s.length≤127:=by unfold Vl.name at h;simp only[Bool.and_eq_true,decide_eq_true_eq] at h;exact h.1
 refine Vl.check_iff.2 ⟨⟨hd,rfl,(fun e=>absurd e (show ¬((5:Int)=9) by decide)),rfl,hl,(show (0:Nat)≤8191 by decide),?_⟩,(fun c hc=>by cases hc)⟩;show (((!(decide ((5:Int)=5))||Vl.name s)&&(!(decide ((5:Int)=7∨(5:Int)=9))||_))=true);rw[h];rfl
theorem int_check {n:Int}(h1:-2147483647≤n)(h2:n≤2147483647){d:Nat}(hd:d≤24):Vl.check d (int n)=0:=by
 refine Vl.check_iff.2 ⟨⟨hd,rfl,(fun e=>absurd e (show ¬((2:Int)=9) by decide)),?_,(show (0:Nat)≤32767 by decide),(show (0:Nat)≤8191 by decide),rfl⟩,(fun c hc=>by cases hc)⟩;show decide (-2147483647≤n∧n≤2147483647)=true;exact decide_eq_true ⟨h1,h2⟩
theorem arr_check {l:List Ob}{d:Nat}(hd:d≤24)(hl:l.length≤8191)(h:∀c∈l,Vl.check (d+1) c=0):Vl.check d (arr l)=0:=
 Vl.check_iff.2 ⟨⟨hd,rfl,(fun e=>absurd e (show ¬((6:Int)=9) by decide)),rfl,(show (0:Nat)≤32767 by decide),hl,rfl⟩,h⟩
theorem dct_check {ks:List (List UInt8)}{cs:List Ob}{d:Nat}(hd:d≤24)(hr:Vl.Rise ks)(hn:∀k∈ks,Vl.name k=true)(hl:ks.length=cs.length)(hm:cs.length≤8191)(h0:∀c∈cs,c.k≠0)(h:∀c∈cs,Vl.check (d+1) c=0):Vl.check d (.mk 7 0 0 [] ks cs)=0:=by
 refine Vl.check_iff.2 ⟨⟨hd,rfl,(fun e=>absurd e (show ¬((7:Int)=9) by decide)),rfl,(show (0:Nat)≤32767 by decide),hm,?_⟩,h⟩;unfold Vl.form;rw[(Vl.rising_iff (o:=.mk 7 0 0 [] ks cs)).2 ⟨hl,hr,fun k hk=>⟨hn k hk,fun e=>absurd e (show ¬((7:Int)=9) by decide)⟩,h0⟩];rfl
def descP (f:Ft):List Pr:=[(kType,nm kDesc),(kFName,nm f.name),(kMiss,int f.missing)]
def encP (f:Ft):List Pr:=[(kType,nm kEnc),(kDiff,arr (int 0::f.names.map nm))]
def narrowP (f:Ft):List Pr:=
 [(kType,nm kFont),(kSub,nm kT1),(kBase,nm f.name)]++((if f.first < 256 then [(kFirst,int f.first)] else [])++((if f.widths=[] then [] else [(kWid,arr (f.widths.map int))]) ++
  ((if 0 < f.missing then [(kDesc,mkD (descP f))] else [])++(if f.names=[] then [] else [(kEnc,mkD (encP f))]))))
theorem desc_eq (f:Ft):mkD (descP f)=.mk 7 0 0 [] [kFName,kMiss,kType] [nm f.name,int f.missing,nm kDesc]:=by rfl
theorem enc_eq (f:Ft):mkD (encP f)=.mk 7 0 0 [] [kDiff,kType] [arr (int 0::f.names.map nm),nm kEnc]:=by rfl
structure Good (f:Ft):Prop where
 name:Vl.name f.name=true
 name1:f.name.length≤127
 first0:0≤f.first
 wl:f.widths.length≤4096
 room:f.first+f.widths.length≤room f.wide
 miss:0≤f.missing∧f.missing≤100000
 ws:∀n∈f.widths,0≤n∧n≤100000
 names:f.names=[]∨(f.wide=false∧f.names.length=256)
 nms:∀s∈f.names,Vl.name s=true
theorem good_of {f:Ft}(h:may f=true):Good f:=by
 unfold may at h;simp only[Bool.and_eq_true,decide_eq_true_eq,List.all_eq_true,Bool.or_eq_true,Bool.not_eq_true',wid] at h;obtain⟨⟨⟨⟨⟨⟨⟨h1,h2⟩,h3⟩,h4⟩,h5⟩,h6⟩,h7⟩,h8⟩:=h;have hn:=named_name h1;exact⟨hn,by unfold Vl.name at hn;simp only[Bool.and_eq_true,decide_eq_true_eq] at hn;exact hn.1,h2,h3,h4,h5,h6,h7,fun s hs=>named_name (h8 s hs)⟩
theorem desc_ok {f:Ft}(h:Good f):okP (descP f):=by
 refine⟨(show [kType,kFName,kMiss].Nodup by decide),fun p hp=>?_,(show 3≤8000 by decide)⟩;simp only[descP,List.mem_cons,List.not_mem_nil,or_false] at hp;rcases hp with rfl|rfl|rfl
 ·exact⟨(show Vl.name kType=true by decide),(show (5:Int)≠0 by decide),nm_check (by decide) (by decide)⟩
 ·exact⟨(show Vl.name kFName=true by decide),(show (5:Int)≠0 by decide),nm_check h.name (by decide)⟩
 ·exact⟨(show Vl.name kMiss=true by decide),(show (2:Int)≠0 by decide),int_check (by have:=h.miss;omega) (by have:=h.miss;omega) (by decide)⟩
theorem diff_check {f:Ft}(h:Good f){d:Nat}(hd:d≤20):Vl.check d (arr (int 0::f.names.map nm))=0:=by
 refine arr_check (by omega) ?_ fun c hc=>?_
 ·rw[List.length_cons,List.length_map];rcases h.names with e|e
  ·rw[e];decide
  ·rw[e.2];decide
 ·rcases List.mem_cons.1 hc with rfl|hc
  ·exact int_check (by decide) (by decide) (by omega)
  ·obtain⟨s,hs,rfl⟩:=List.mem_map.1 hc;exact nm_check (h.nms s hs) (by omega)
theorem narrow_mem {f:Ft}{p:Pr}:p∈narrowP f↔p=(kType,nm kFont)∨p=(kSub,nm kT1)∨p=(kBase,nm f.name)∨(f.first < 256∧p=(kFirst,int f.first))∨(f.widths≠[]∧p=(kWid,arr (f.widths.map int))) ∨
  (0 < f.missing∧p=(kDesc,mkD (descP f)))∨(f.names≠[]∧p=(kEnc,mkD (encP f))):=by
 unfold narrowP;by_cases h1:f.first < 256<;>by_cases h2:f.widths=[]<;>by_cases h3:0 < f.missing<;>by_cases h4:f.names=[]<;>simp[h1,h2,h3,h4]
theorem narrow_keys (f:Ft):((narrowP f).map (·.1)).Nodup:=by
 unfold narrowP;by_cases h1:f.first < 256<;>by_cases h2:f.widths=[]<;>by_cases h3:0 < f.missing<;>by_cases h4:f.names=[]<;>simp only[h1,h2,h3,h4,if_true,if_false,List.map_append,List.map_cons,List.map_nil,List.append_nil,List.nil_append]<;>decide
theorem narrow_ok {f:Ft}(h:Good f)(hw:f.wide=false):okP (narrowP f):=by
 have hr:f.first+f.widths.length≤256:=by have:=h.room;rw[hw] at this;exact this
 refine⟨narrow_keys f,fun p hp=>?_,?_⟩
 ·rcases narrow_mem.1 hp with rfl|rfl|rfl|⟨h1,rfl⟩|⟨h1,rfl⟩|⟨h1,rfl⟩|⟨h1,rfl⟩
  ·exact⟨(show Vl.name kType=true by decide),(show (5:Int)≠0 by decide),nm_check (by decide) (by decide)⟩
  ·exact⟨(show Vl.name kSub=true by decide),(show (5:Int)≠0 by decide),nm_check (by decide) (by decide)⟩
  ·exact⟨(show Vl.name kBase=true by decide),(show (5:Int)≠0 by decide),nm_check h.name (by decide)⟩
  ·exact⟨(show Vl.name kFirst=true by decide),(show (2:Int)≠0 by decide),int_check (by have:=h.first0;omega) (by omega) (by decide)⟩
  ·refine⟨(show Vl.name kWid=true by decide),(show (6:Int)≠0 by decide),arr_check (by decide) (by rw[List.length_map];have:=h.wl;omega) fun c hc=>?_⟩;obtain⟨n,hn,rfl⟩:=List.mem_map.1 hc;have:=h.ws n hn;exact int_check (by omega) (by omega) (by decide)
  ·refine⟨(show Vl.name kDesc=true by decide),(show (7:Int)≠0 by decide),?_⟩;rw[desc_eq];refine dct_check (by decide) (show List.Pairwise (fun a b=>Vl.less a b=true) [kFName,kMiss,kType] by decide) (by decide) rfl (show 3≤8191 by decide) (fun c hc=>?_) fun c hc=>?_<;>simp only[List.mem_cons,List.not_mem_nil,or_false] at hc<;>rcases hc with rfl|rfl|rfl
   ·exact (show (5:Int)≠0 by decide)
   ·exact (show (2:Int)≠0 by decide)
   ·exact (show (5:Int)≠0 by decide)
   ·exact nm_check h.name (by decide)
   ·exact int_check (by have:=h.miss;omega) (by have:=h.miss;omega) (by decide)
   ·exact nm_check (by decide) (by decide)
  ·refine⟨(show Vl.name kEnc=true by decide),(show (7:Int)≠0 by decide),?_⟩;rw[enc_eq];refine dct_check (by decide) (show List.Pairwise (fun a b=>Vl.less a b=true) [kDiff,kType] by decide) (by decide) rfl (show 2≤8191 by decide) (fun c hc=>?_) fun c hc=>?_<;>simp only[List.mem_cons,List.not_mem_nil,or_false] at hc<;>rcases hc with rfl|rfl
   ·exact (show (6:Int)≠0 by decide)
   ·exact (show (5:Int)≠0 by decide)
   ·exact diff_check h (by decide)
   ·exact nm_check (by decide) (by decide)
 ·unfold narrowP;by_cases h1:f.first < 256<;>by_cases h2:f.widths=[]<;>by_cases h3:0 < f.missing<;>by_cases h4:f.names=[]<;>simp[h1,h2,h3,h4]
end Fo
end
section
open Eng
def S_font_maker_add_0 (t0 t2 t6 t7 t8:Value)(w:World)(K:Ending→World→Prop):Prop:=
 CallX prog 42 #[t2] w (pk K) fun t22 w=>
 DoX prog (mLoad 50 t7) w (pk K) fun t24 w=>
 DoX prog (mNil t0) w (pk K) fun t25 w=>
 DoX prog (mFA 77 t25 0) w (pk K) fun t26 w=>
 DoX prog (mStore 50 t26 t24) w (pk K) fun _ w=>
 CallX prog 77 #[t8,(.int .i64 0)] w (pk K) fun t28 w=>
 DoX prog (mStore 48 t6 t28) w (pk K) fun _ w=>
 RetX prog [.cell t6 48] w K
def S_font_maker_add (t0 t1 t2:Value)(w:World)(K:Ending→World→Prop):Prop:=
 DoX prog (mBox 48 t1) w (pk K) fun t4 w=>
 DoX prog (mAlloc 48) w (pk K) fun t6 w=>
 CallX prog 42 #[t2] w (pk K) fun t10 w=>
 HeldX w (fun S1 w=>
 HDo prog (fun _=>True) (mNil t0) fun t13=>
 HDo prog (fun _=>True) (mFA 77 t13 0) fun t14=>
 HDo prog S1 (mLoad 50 t14) fun t15=>
 HDo prog S1 (mLoad 48 t4) fun t16=>
 (CallX prog 76 #[t15,t16] w (pm1 (pm1 (pm1 (pm1 (pm1 (pm1 (pm1 (pm1 (pm1 (pm1 (pm1 (pk K)))))))))))) fun t17 w=>
 (HDo prog (fun _=>True) (mExt t17 0) fun t18=>
 HDo prog (fun _=>True) (mExt t17 1) fun t19=>
 HDo prog (fun _=>True) (mExt t17 2) fun t20=>
 DoX prog (mAlloc 50) w (pm1 (pm1 (pm1 (pm1 (pm1 (pm1 (pm1 (pm1 (pm1 (pm1 (pm1 (pk K)))))))))))) fun t7 w=>
 S1 w∧(DoX prog (mStore 50 t7 t18) w (pm1 (pm1 (pm1 (pm1 (pm1 (pm1 (pm1 (pm1 (pm1 (pm1 (pm1 (pk K)))))))))))) fun _ w=>
 (S_font_maker_add_0 t0 t20 t6 t7 t19 w K))))∧(DoX prog (mAlloc 50) w (pm1 (pm1 (pm1 (pm1 (pm1 (pm1 (pm1 (pm1 (pm1 (pm1 (pm1 (pk K)))))))))))) fun t7_1 w=>
 S1 w∧(CallX prog 76 #[t15,t16] w (pm1 (pm1 (pm1 (pm1 (pm1 (pm1 (pm1 (pm1 (pm1 (pm1 (pm1 (pk K)))))))))))) fun t17_1 w=>
 (HDo prog (fun _=>True) (mExt t17_1 0) fun t18_1=>
 HDo prog (fun _=>True) (mExt t17_1 1) fun t19_1=>
 HDo prog (fun _=>True) (mExt t17_1 2) fun t20_1=>
 DoX prog (mStore 50 t7_1 t18_1) w (pm1 (pm1 (pm1 (pm1 (pm1 (pm1 (pm1 (pm1 (pm1 (pm1 (pm1 (pk K)))))))))))) fun _ w=>
 (S_font_maker_add_0 t0 t20_1 t6 t7_1 t19_1 w K)))))
theorem S_font_maker_add_eq (t0 t1 t2:Value)(w:World)(K:Ending→World→Prop):wpX prog 29 [] [] none (bodyOf Tryz.f43) (topQ prog [.cell 6 48] K) (startX [t0,t1,t2]) [] w=S_font_maker_add t0 t1 t2 w K:=by kernel_rfl
theorem S_font_maker_add_ok {t0 t1 t2:Value}{w:World}{K:Ending→World→Prop}(h:S_font_maker_add t0 t1 t2 w K):Calls prog 43 #[t0,t1,t2] w K:=
 calls_of_wpX Tryz.func43 rfl rfl rfl rfl (Eq.mpr (S_font_maker_add_eq t0 t1 t2 w K) h)
def S_font_dict_1 (t4 t11:Value)(w:World)(N1:List Value→World→Prop)(K:Ending→World→Prop):Prop:=
 DoX prog (mBin .add 3 t11 (.int .i64 1)) w (pk K) fun t31 w=>
 N1 [t4,t31] w
def S_font_dict_0 (t2 t4 t9 t10 t11:Value)(w:World)(N1:List Value→World→Prop)(K:Ending→World→Prop):Prop:=
 DoX prog (mBin .lss 3 t11 t10) w (pk K) fun t12 w=>
 IfX t12 (JoinX (fun J2=>
 DoX prog (mIA 78 t9 t11) w (pk K) fun t13 w=>
 DoX prog (mLoad 20 t13) w (pk K) fun t14 w=>
 DoX prog (mTA t14 20 9 true) w (pk K) fun t16 w=>
 DoX prog (mExt t16 1) w (pk K) fun t17 w=>
 DoX prog (mExt t16 0) w (pk K) fun t18 w=>
 IfX t17 (CallX prog 70 #[t18] w (pk K) fun t21 w=>
 DoX prog (mBuildS 46 1 #[(0,t21)]) w (pk K) fun t22 w=>
 DoX prog (mB .append #[46,46] 46 #[false,false] #[t4,t22]) w (pk K) fun t23 w=>
 J2 [t23] w) (DoX prog (mTA t14 20 48 true) w (pk K) fun t24 w=>
 DoX prog (mExt t24 1) w (pk K) fun t25 w=>
 DoX prog (mExt t24 0) w (pk K) fun t26 w=>
 IfX t25 (DoX prog (mAlloc 48) w (pk K) fun t8 w=>
 DoX prog (mStore 48 t8 t26) w (pk K) fun _ w=>
 DoX prog (mLoad 48 t8) w (pk K) fun t28 w=>
 DoX prog (mBuildS 46 1 #[(0,t28)]) w (pk K) fun t29 w=>
 DoX prog (mB .append #[46,46] 46 #[false,false] #[t4,t29]) w (pk K) fun t30 w=>
 J2 [t30] w) (J2 [t4] w))) (fun vs2 w=>∀_:Sg,S_font_dict_1 (vs2.getD 0 undef) t11 w N1 K)) (CallX prog 81 #[t4] w (pk K) fun t33 w=>
 DoX prog (mExt t33 0) w (pk K) fun t34 w=>
 DoX prog (mExt t33 1) w (pk K) fun t35 w=>
 DoX prog (mStore 48 t2 t34) w (pk K) fun _ w=>
 RetX prog [.cell t2 48,.val t35] w K)
def S_font_dict (t0:Value)(w:World)(K:Ending→World→Prop):Prop:=
 DoX prog (mAlloc 48) w (pk K) fun t2 w=>
 DoX prog (mB .len #[78] 3 #[false] #[t0]) w (pk K) fun t10 w=>
 LoopX [(.slice none 0 0),(.int .i64 0)] w (fun vs1 w N1=>∀_:Sg,S_font_dict_0 t2 (vs1.getD 0 undef) t0 t10 (vs1.getD 1 undef) w N1 K)
theorem S_font_dict_eq (t0:Value)(w:World)(K:Ending→World→Prop):wpX prog 36 [(12,[4])] [(3,[4,11])] none (bodyOf Tryz.f45) (topQ prog [.cell 2 48,.tmp 3] K) (startX [t0]) [] w=S_font_dict t0 w K:=by kernel_rfl
theorem S_font_dict_ok {t0:Value}{w:World}{K:Ending→World→Prop}(h:S_font_dict t0 w K):Calls prog 45 #[t0] w K:=
 calls_of_wpX Tryz.func45 rfl rfl rfl rfl (Eq.mpr (S_font_dict_eq t0 w K) h)
def S_font_ints_0 (t2 t3 t6 t7 t8:Value)(w:World)(N1:List Value→World→Prop)(K:Ending→World→Prop):Prop:=
 DoX prog (mBin .lss 3 t8 t7) w (pk K) fun t9 w=>
 IfX t9 (DoX prog (mIA 22 t6 t8) w (pk K) fun t10 w=>
 DoX prog (mLoad 2 t10) w (pk K) fun t11 w=>
 CallX prog 67 #[t11] w (pk K) fun t14 w=>
 DoX prog (mBuildS 46 1 #[(0,t14)]) w (pk K) fun t15 w=>
 DoX prog (mB .append #[46,46] 46 #[false,false] #[t3,t15]) w (pk K) fun t16 w=>
 DoX prog (mBin .add 3 t8 (.int .i64 1)) w (pk K) fun t17 w=>
 N1 [t16,t17] w) (CallX prog 68 #[t3] w (pk K) fun t19 w=>
 DoX prog (mStore 48 t2 t19) w (pk K) fun _ w=>
 RetX prog [.cell t2 48] w K)
def S_font_ints (t0:Value)(w:World)(K:Ending→World→Prop):Prop:=
 DoX prog (mAlloc 48) w (pk K) fun t2 w=>
 DoX prog (mB .len #[22] 3 #[false] #[t0]) w (pk K) fun t7 w=>
 LoopX [(.slice none 0 0),(.int .i64 0)] w (fun vs1 w N1=>∀_:Sg,S_font_ints_0 t2 (vs1.getD 0 undef) t0 t7 (vs1.getD 1 undef) w N1 K)
theorem S_font_ints_eq (t0:Value)(w:World)(K:Ending→World→Prop):wpX prog 20 [] [(3,[3,8])] none (bodyOf Tryz.f69) (topQ prog [.cell 2 48] K) (startX [t0]) [] w=S_font_ints t0 w K:=by kernel_rfl
theorem S_font_ints_ok {t0:Value}{w:World}{K:Ending→World→Prop}(h:S_font_ints t0 w K):Calls prog 69 #[t0] w K:=
 calls_of_wpX Tryz.func69 rfl rfl rfl rfl (Eq.mpr (S_font_ints_eq t0 w K) h)
def S_font_narrowly_5 (t3:Value)(w:World)(K:Ending→World→Prop):Prop:=
 K (.returned t3) w
def S_font_narrowly_4 (t3 t6 t77 t78 t79:Value)(w:World)(J5 N6:List Value→World→Prop)(K:Ending→World→Prop):Prop:=
 DoX prog (mBin .lss 3 t79 t78) w (pk K) fun t80 w=>
 IfX t80 (DoX prog (mIA 23 t77 t79) w (pk K) fun t81 w=>
 DoX prog (mLoad 9 t81) w (pk K) fun t82 w=>
 CallX prog 70 #[t82] w (pk K) fun t85 w=>
 DoX prog (mBuildS 46 1 #[(0,t85)]) w (pk K) fun t86 w=>
 DoX prog (mB .append #[46,46] 46 #[false,false] #[t6,t86]) w (pk K) fun t87 w=>
 DoX prog (mBin .add 3 t79 (.int .i64 1)) w (pk K) fun t88 w=>
 N6 [t87,t88] w) (DoX prog (mIface 9 (.string ⟨#[84,121,112,101]⟩)) w (pk K) fun t90 w=>
 DoX prog (mIface 9 (.string ⟨#[69,110,99,111,100,105,110,103]⟩)) w (pk K) fun t91 w=>
 DoX prog (mIface 9 (.string ⟨#[68,105,102,102,101,114,101,110,99,101,115]⟩)) w (pk K) fun t92 w=>
 CallX prog 68 #[t6] w (pk K) fun t94 w=>
 DoX prog (mIface 48 t94) w (pk K) fun t95 w=>
 DoX prog (mBuildS 78 4 #[(0,t90),(1,t91),(2,t92),(3,t95)]) w (pk K) fun t96 w=>
 CallX prog 45 #[t96] w (pk K) fun t97 w=>
 DoX prog (mExt t97 0) w (pk K) fun t98 w=>
 DoX prog (mExt t97 1) w (pk K) fun t99 w=>
 DoX prog (mAlloc 48) w (pk K) fun t9 w=>
 DoX prog (mStore 48 t9 t98) w (pk K) fun _ w=>
 CallX prog 42 #[t99] w (pk K) fun t101 w=>
 DoX prog (mIface 9 (.string ⟨#[69,110,99,111,100,105,110,103]⟩)) w (pk K) fun t103 w=>
 DoX prog (mLoad 48 t9) w (pk K) fun t104 w=>
 DoX prog (mIface 48 t104) w (pk K) fun t105 w=>
 DoX prog (mBuildS 78 2 #[(0,t103),(1,t105)]) w (pk K) fun t106 w=>
 DoX prog (mB .append #[78,78] 78 #[false,false] #[t3,t106]) w (pk K) fun t107 w=>
 J5 [t107] w)
def S_font_narrowly_3 (t1 t3:Value)(w:World)(K:Ending→World→Prop):Prop:=
 JoinX (fun J5=>
 DoX prog (mFA 26 t1 5) w (pk K) fun t70 w=>
 DoX prog (mLoad 23 t70) w (pk K) fun t71 w=>
 DoX prog (mB .len #[23] 3 #[false] #[t71]) w (pk K) fun t72 w=>
 DoX prog (mBin .gtr 3 t72 (.int .i64 0)) w (pk K) fun t73 w=>
 IfX t73 (CallX prog 67 #[(.int .i64 0)] w (pk K) fun t74 w=>
 DoX prog (mBuildS 46 1 #[(0,t74)]) w (pk K) fun t75 w=>
 DoX prog (mFA 26 t1 5) w (pk K) fun t76 w=>
 DoX prog (mLoad 23 t76) w (pk K) fun t77 w=>
 DoX prog (mB .len #[23] 3 #[false] #[t77]) w (pk K) fun t78 w=>
 LoopX [t75,(.int .i64 0)] w (fun vs6 w N6=>∀_:Sg,S_font_narrowly_4 t3 (vs6.getD 0 undef) t77 t78 (vs6.getD 1 undef) w J5 N6 K)) (J5 [t3] w)) (fun vs5 w=>∀_:Sg,S_font_narrowly_5 (vs5.getD 0 undef) w K)
def S_font_narrowly_2 (t3 t4 t5:Value)(w:World)(J3:List Value→World→Prop)(K:Ending→World→Prop):Prop:=
 CallX prog 42 #[t5] w (pk K) fun t63 w=>
 DoX prog (mIface 9 (.string ⟨#[70,111,110,116,68,101,115,99,114,105,112,116,111,114]⟩)) w (pk K) fun t65 w=>
 DoX prog (mLoad 48 t4) w (pk K) fun t66 w=>
 DoX prog (mIface 48 t66) w (pk K) fun t67 w=>
 DoX prog (mBuildS 78 2 #[(0,t65),(1,t67)]) w (pk K) fun t68 w=>
 DoX prog (mB .append #[78,78] 78 #[false,false] #[t3,t68]) w (pk K) fun t69 w=>
 J3 [t69] w
def S_font_narrowly_1 (t1 t3:Value)(w:World)(K:Ending→World→Prop):Prop:=
 JoinX (fun J3=>
 DoX prog (mFA 26 t1 4) w (pk K) fun t43 w=>
 DoX prog (mLoad 2 t43) w (pk K) fun t44 w=>
 DoX prog (mBin .gtr 2 t44 (.int .i64 0)) w (pk K) fun t45 w=>
 IfX t45 (HeldX w (fun S4 w=>
 HDo prog (fun _=>True) (mIface 9 (.string ⟨#[84,121,112,101]⟩)) fun t47=>
 HDo prog (fun _=>True) (mIface 9 (.string ⟨#[70,111,110,116,68,101,115,99,114,105,112,116,111,114]⟩)) fun t48=>
 HDo prog (fun _=>True) (mIface 9 (.string ⟨#[70,111,110,116,78,97,109,101]⟩)) fun t49=>
 HDo prog (fun _=>True) (mFA 26 t1 0) fun t50=>
 HDo prog S4 (mLoad 9 t50) fun t51=>
 HDo prog (fun _=>True) (mIface 9 t51) fun t52=>
 HDo prog (fun _=>True) (mIface 9 (.string ⟨#[77,105,115,115,105,110,103,87,105,100,116,104]⟩)) fun t53=>
 HDo prog (fun _=>True) (mFA 26 t1 4) fun t54=>
 HDo prog S4 (mLoad 2 t54) fun t55=>
 (CallX prog 67 #[t55] w (pm1 (pm1 (pm1 (pm1 (pm1 (pm1 (pm1 (pm1 (pm1 (pm1 (pm1 (pm1 (pm1 (pm1 (pk K))))))))))))))) fun t56 w=>
 S4 w∧(HDo prog (fun _=>True) (mIface 48 t56) fun t57=>
 (DoX prog (mBuildS 78 6 #[(0,t47),(1,t48),(2,t49),(3,t52),(4,t53),(5,t57)]) w (pm1 (pm1 (pm1 (pm1 (pm1 (pm1 (pm1 (pm1 (pm1 (pm1 (pm1 (pm1 (pm1 (pm1 (pk K))))))))))))))) fun t58 w=>
 S4 w∧((CallX prog 45 #[t58] w (pm1 (pm1 (pm1 (pm1 (pm1 (pm1 (pm1 (pm1 (pm1 (pm1 (pm1 (pm1 (pm1 (pm1 (pk K))))))))))))))) fun t59 w=>
 S4 w∧(HDo prog (fun _=>True) (mExt t59 0) fun t60=>
 HDo prog (fun _=>True) (mExt t59 1) fun t61=>
 DoX prog (mAlloc 48) w (pm1 (pm1 (pm1 (pm1 (pm1 (pm1 (pm1 (pm1 (pm1 (pm1 (pm1 (pm1 (pm1 (pm1 (pk K))))))))))))))) fun t4 w=>
 S4 w∧(DoX prog (mStore 48 t4 t60) w (pm1 (pm1 (pm1 (pm1 (pm1 (pm1 (pm1 (pm1 (pm1 (pm1 (pm1 (pm1 (pm1 (pm1 (pk K))))))))))))))) fun _ w=>
 (S_font_narrowly_2 t3 t4 t61 w J3 K))))∧(DoX prog (mAlloc 48) w (pm1 (pm1 (pm1 (pm1 (pm1 (pm1 (pm1 (pm1 (pm1 (pm1 (pm1 (pm1 (pm1 (pm1 (pk K))))))))))))))) fun t4_1 w=>
 S4 w∧(CallX prog 45 #[t58] w (pm1 (pm1 (pm1 (pm1 (pm1 (pm1 (pm1 (pm1 (pm1 (pm1 (pm1 (pm1 (pm1 (pm1 (pk K))))))))))))))) fun t59_1 w=>
 S4 w∧(HDo prog (fun _=>True) (mExt t59_1 0) fun t60_1=>
 HDo prog (fun _=>True) (mExt t59_1 1) fun t61_1=>
 DoX prog (mStore 48 t4_1 t60_1) w (pm1 (pm1 (pm1 (pm1 (pm1 (pm1 (pm1 (pm1 (pm1 (pm1 (pm1 (pm1 (pm1 (pm1 (pk K))))))))))))))) fun _ w=>
 (S_font_narrowly_2 t3 t4_1 t61_1 w J3 K))))))∧(DoX prog (mAlloc 48) w (pm1 (pm1 (pm1 (pm1 (pm1 (pm1 (pm1 (pm1 (pm1 (pm1 (pm1 (pm1 (pm1 (pm1 (pk K))))))))))))))) fun t4_2 w=>
 S4 w∧(DoX prog (mBuildS 78 6 #[(0,t47),(1,t48),(2,t49),(3,t52),(4,t53),(5,t57)]) w (pm1 (pm1 (pm1 (pm1 (pm1 (pm1 (pm1 (pm1 (pm1 (pm1 (pm1 (pm1 (pm1 (pm1 (pk K))))))))))))))) fun t58_1 w=>
 S4 w∧(CallX prog 45 #[t58_1] w (pm1 (pm1 (pm1 (pm1 (pm1 (pm1 (pm1 (pm1 (pm1 (pm1 (pm1 (pm1 (pm1 (pm1 (pk K))))))))))))))) fun t59_2 w=>
 S4 w∧(HDo prog (fun _=>True) (mExt t59_2 0) fun t60_2=>
 HDo prog (fun _=>True) (mExt t59_2 1) fun t61_2=>
 DoX prog (mStore 48 t4_2 t60_2) w (pm1 (pm1 (pm1 (pm1 (pm1 (pm1 (pm1 (pm1 (pm1 (pm1 (pm1 (pm1 (pm1 (pm1 (pk K))))))))))))))) fun _ w=>
 (S_font_narrowly_2 t3 t4_2 t61_2 w J3 K)))))))∧(DoX prog (mAlloc 48) w (pm1 (pm1 (pm1 (pm1 (pm1 (pm1 (pm1 (pm1 (pm1 (pm1 (pm1 (pm1 (pm1 (pm1 (pk K))))))))))))))) fun t4_3 w=>
 S4 w∧(CallX prog 67 #[t55] w (pm1 (pm1 (pm1 (pm1 (pm1 (pm1 (pm1 (pm1 (pm1 (pm1 (pm1 (pm1 (pm1 (pm1 (pk K))))))))))))))) fun t56_1 w=>
 S4 w∧(HDo prog (fun _=>True) (mIface 48 t56_1) fun t57_1=>
 DoX prog (mBuildS 78 6 #[(0,t47),(1,t48),(2,t49),(3,t52),(4,t53),(5,t57_1)]) w (pm1 (pm1 (pm1 (pm1 (pm1 (pm1 (pm1 (pm1 (pm1 (pm1 (pm1 (pm1 (pm1 (pm1 (pk K))))))))))))))) fun t58_2 w=>
 S4 w∧(CallX prog 45 #[t58_2] w (pm1 (pm1 (pm1 (pm1 (pm1 (pm1 (pm1 (pm1 (pm1 (pm1 (pm1 (pm1 (pm1 (pm1 (pk K))))))))))))))) fun t59_3 w=>
 S4 w∧(HDo prog (fun _=>True) (mExt t59_3 0) fun t60_3=>
 HDo prog (fun _=>True) (mExt t59_3 1) fun t61_3=>
 DoX prog (mStore 48 t4_3 t60_3) w (pm1 (pm1 (pm1 (pm1 (pm1 (pm1 (pm1 (pm1 (pm1 (pm1 (pm1 (pm1 (pm1 (pm1 (pk K))))))))))))))) fun _ w=>
 (S_font_narrowly_2 t3 t4_3 t61_3 w J3 K)))))))) (J3 [t3] w)) (fun vs3 w=>∀_:Sg,S_font_narrowly_3 t1 (vs3.getD 0 undef) w K)
def S_font_narrowly_0 (t1 t3:Value)(w:World)(K:Ending→World→Prop):Prop:=
 JoinX (fun J2=>
 DoX prog (mFA 26 t1 3) w (pk K) fun t31 w=>
 DoX prog (mLoad 22 t31) w (pk K) fun t32 w=>
 DoX prog (mB .len #[22] 3 #[false] #[t32]) w (pk K) fun t33 w=>
 DoX prog (mBin .gtr 3 t33 (.int .i64 0)) w (pk K) fun t34 w=>
 IfX t34 (DoX prog (mIface 9 (.string ⟨#[87,105,100,116,104,115]⟩)) w (pk K) fun t36 w=>
 DoX prog (mFA 26 t1 3) w (pk K) fun t37 w=>
 DoX prog (mLoad 22 t37) w (pk K) fun t38 w=>
 CallX prog 69 #[t38] w (pk K) fun t39 w=>
 DoX prog (mIface 48 t39) w (pk K) fun t40 w=>
 DoX prog (mBuildS 78 2 #[(0,t36),(1,t40)]) w (pk K) fun t41 w=>
 DoX prog (mB .append #[78,78] 78 #[false,false] #[t3,t41]) w (pk K) fun t42 w=>
 J2 [t42] w) (J2 [t3] w)) (fun vs2 w=>∀_:Sg,S_font_narrowly_1 t1 (vs2.getD 0 undef) w K)
def S_font_narrowly (t0:Value)(w:World)(K:Ending→World→Prop):Prop:=
 DoX prog (mBox 26 t0) w (pk K) fun t1 w=>
 DoX prog (mIface 9 (.string ⟨#[84,121,112,101]⟩)) w (pk K) fun t11 w=>
 DoX prog (mIface 9 (.string ⟨#[70,111,110,116]⟩)) w (pk K) fun t12 w=>
 DoX prog (mIface 9 (.string ⟨#[83,117,98,116,121,112,101]⟩)) w (pk K) fun t13 w=>
 DoX prog (mIface 9 (.string ⟨#[84,121,112,101,49]⟩)) w (pk K) fun t14 w=>
 DoX prog (mIface 9 (.string ⟨#[66,97,115,101,70,111,110,116]⟩)) w (pk K) fun t15 w=>
 DoX prog (mFA 26 t1 0) w (pk K) fun t16 w=>
 DoX prog (mLoad 9 t16) w (pk K) fun t17 w=>
 DoX prog (mIface 9 t17) w (pk K) fun t18 w=>
 DoX prog (mBuildS 78 6 #[(0,t11),(1,t12),(2,t13),(3,t14),(4,t15),(5,t18)]) w (pk K) fun t19 w=>
 JoinX (fun J1=>
 DoX prog (mFA 26 t1 2) w (pk K) fun t20 w=>
 DoX prog (mLoad 3 t20) w (pk K) fun t21 w=>
 DoX prog (mBin .lss 3 t21 (.int .i64 256)) w (pk K) fun t22 w=>
 IfX t22 (DoX prog (mIface 9 (.string ⟨#[70,105,114,115,116,67,104,97,114]⟩)) w (pk K) fun t24 w=>
 DoX prog (mFA 26 t1 2) w (pk K) fun t25 w=>
 DoX prog (mLoad 3 t25) w (pk K) fun t26 w=>
 CallX prog 67 #[t26] w (pk K) fun t27 w=>
 DoX prog (mIface 48 t27) w (pk K) fun t28 w=>
 DoX prog (mBuildS 78 2 #[(0,t24),(1,t28)]) w (pk K) fun t29 w=>
 DoX prog (mB .append #[78,78] 78 #[false,false] #[t19,t29]) w (pk K) fun t30 w=>
 J1 [t30] w) (J1 [t19] w)) (fun vs1 w=>∀_:Sg,S_font_narrowly_0 t1 (vs1.getD 0 undef) w K)
theorem S_font_narrowly_eq (t0:Value)(w:World)(K:Ending→World→Prop):wpX prog 109 [(4,[3]),(6,[3]),(10,[3]),(20,[3])] [(13,[6,79])] none (bodyOf Tryz.f40) (topQ prog [.tmp 2] K) (startX [t0]) [] w=S_font_narrowly t0 w K:=by kernel_rfl
theorem S_font_narrowly_ok {t0:Value}{w:World}{K:Ending→World→Prop}(h:S_font_narrowly t0 w K):Calls prog 40 #[t0] w K:=
 calls_of_wpX Tryz.func40 rfl rfl rfl rfl (Eq.mpr (S_font_narrowly_eq t0 w K) h)
def S_font_Make_p0 (x0:Deferred)(x1:Value)(x2:Value)(x3:Value)(K:Ending→World→Prop):=pd prog [.cell x1 50,.cell x2 48,.cell x3 30] K [x0]
def S_font_Make_1 (t4 t5 t6 t9 t10:Value)(d1:Deferred)(w:World)(K:Ending→World→Prop):Prop:=
 CallX prog 45 #[t10] w (S_font_Make_p0 d1 t4 t5 t6 K) fun t66 w=>
 DoX prog (mExt t66 0) w (S_font_Make_p0 d1 t4 t5 t6 K) fun t67 w=>
 DoX prog (mExt t66 1) w (S_font_Make_p0 d1 t4 t5 t6 K) fun t68 w=>
 CallX prog 43 #[t9,t67,t68] w (S_font_Make_p0 d1 t4 t5 t6 K) fun t69 w=>
 DoX prog (mStore 48 t5 t69) w (S_font_Make_p0 d1 t4 t5 t6 K) fun _ w=>
 HeldX w (fun S4 w=>
 HDo prog (fun _=>True) (mNil t9) fun t71=>
 HDo prog (fun _=>True) (mFA 77 t71 0) fun t72=>
 HDo prog S4 (mLoad 50 t72) fun t73=>
 HDo prog S4 (mLoad 48 t5) fun t74=>
 DoX prog (mStore 50 t4 t73) w (pm1 (pm1 (pm1 (pm1 (pm1 (S_font_Make_p0 d1 t4 t5 t6 K)))))) fun _ w=>
 S4 w∧(DoX prog (mStore 48 t5 t74) w (pm1 (pm1 (pm1 (pm1 (pm1 (S_font_Make_p0 d1 t4 t5 t6 K)))))) fun _ w=>
 (DoX prog (mStore 30 t6 (.int .i64 0)) w (pm1 (pm1 (pm1 (pm1 (pm1 (S_font_Make_p0 d1 t4 t5 t6 K)))))) fun _ w=>
 (Leave prog [.cell t4 50,.cell t5 48,.cell t6 30] K [d1] .returning w))))
def S_font_Make_0 (t3 t4 t5 t6 t9 t10:Value)(d1:Deferred)(w:World)(K:Ending→World→Prop):Prop:=
 JoinX (fun J3=>
 DoX prog (mFA 26 t3 6) w (S_font_Make_p0 d1 t4 t5 t6 K) fun t38 w=>
 DoX prog (mLoad 24 t38) w (S_font_Make_p0 d1 t4 t5 t6 K) fun t39 w=>
 DoX prog (mB .len #[24] 3 #[false] #[t39]) w (S_font_Make_p0 d1 t4 t5 t6 K) fun t40 w=>
 DoX prog (mBin .gtr 3 t40 (.int .i64 0)) w (S_font_Make_p0 d1 t4 t5 t6 K) fun t41 w=>
 IfX t41 (DoX prog (mFA 26 t3 6) w (S_font_Make_p0 d1 t4 t5 t6 K) fun t43 w=>
 DoX prog (mLoad 24 t43) w (S_font_Make_p0 d1 t4 t5 t6 K) fun t44 w=>
 DoX prog (mFA 26 t3 1) w (S_font_Make_p0 d1 t4 t5 t6 K) fun t45 w=>
 DoX prog (mLoad 4 t45) w (S_font_Make_p0 d1 t4 t5 t6 K) fun t46 w=>
 CallX prog 41 #[t44,t46] w (S_font_Make_p0 d1 t4 t5 t6 K) fun t47 w=>
 DoX prog (mExt t47 0) w (S_font_Make_p0 d1 t4 t5 t6 K) fun t48 w=>
 DoX prog (mExt t47 1) w (S_font_Make_p0 d1 t4 t5 t6 K) fun t49 w=>
 CallX prog 42 #[t49] w (S_font_Make_p0 d1 t4 t5 t6 K) fun t51 w=>
 DoX prog (mIface 9 (.string ⟨#[84,111,85,110,105,99,111,100,101]⟩)) w (S_font_Make_p0 d1 t4 t5 t6 K) fun t53 w=>
 DoX prog (mBuild 48 #[(0,(.int .i64 7))]) w (S_font_Make_p0 d1 t4 t5 t6 K) fun t55 w=>
 CallX prog 44 #[t55,t48] w (S_font_Make_p0 d1 t4 t5 t6 K) fun t57 w=>
 DoX prog (mExt t57 0) w (S_font_Make_p0 d1 t4 t5 t6 K) fun t58 w=>
 DoX prog (mExt t57 1) w (S_font_Make_p0 d1 t4 t5 t6 K) fun t59 w=>
 CallX prog 43 #[t9,t58,t59] w (S_font_Make_p0 d1 t4 t5 t6 K) fun t60 w=>
 DoX prog (mIface 48 t60) w (S_font_Make_p0 d1 t4 t5 t6 K) fun t61 w=>
 DoX prog (mBuildS 78 2 #[(0,t53),(1,t61)]) w (S_font_Make_p0 d1 t4 t5 t6 K) fun t62 w=>
 DoX prog (mB .append #[78,78] 78 #[false,false] #[t10,t62]) w (S_font_Make_p0 d1 t4 t5 t6 K) fun t63 w=>
 AtX [d1] [d1] (J3 [t63] w)) (AtX [d1] [d1] (J3 [t10] w))) (fun vs3 w=>∀_:Sg,S_font_Make_1 t4 t5 t6 t9 (vs3.getD 0 undef) d1 w K)
def S_font_Make (t0 t1:Value)(w:World)(K:Ending→World→Prop):Prop:=
 DoX prog (mBox 50 t0) w (pk K) fun t2 w=>
 DoX prog (mBox 26 t1) w (pk K) fun t3 w=>
 DoX prog (mAlloc 50) w (pk K) fun t4 w=>
 DoX prog (mAlloc 48) w (pk K) fun t5 w=>
 DoX prog (mAlloc 30) w (pk K) fun t6 w=>
 DoX prog (mLoad 50 t2) w (pk K) fun t13 w=>
 CallX prog 37 #[t13] w (pk K) fun t14 w=>
 DoX prog (mEq .neq 30 (.tmp 15) (.const (.int .i64 0)) t14 (.int .i64 0)) w (pk K) fun t16 w=>
 IfX t16 (DoX prog (mBuild 50 #[]) w (pk K) fun t17 w=>
 DoX prog (mBuild 48 #[]) w (pk K) fun t18 w=>
 DoX prog (mStore 50 t4 t17) w (pk K) fun _ w=>
 DoX prog (mStore 48 t5 t18) w (pk K) fun _ w=>
 DoX prog (mStore 30 t6 t14) w (pk K) fun _ w=>
 RetX prog [.cell t4 50,.cell t5 48,.cell t6 30] w K) (DoX prog (mLoad 26 t3) w (pk K) fun t20 w=>
 CallX prog 16 #[t20] w (pk K) fun t21 w=>
 DoX prog (mEq .neq 30 (.tmp 22) (.const (.int .i64 0)) t21 (.int .i64 0)) w (pk K) fun t23 w=>
 IfX t23 (DoX prog (mBuild 50 #[]) w (pk K) fun t24 w=>
 DoX prog (mBuild 48 #[]) w (pk K) fun t25 w=>
 DoX prog (mStore 50 t4 t24) w (pk K) fun _ w=>
 DoX prog (mStore 48 t5 t25) w (pk K) fun _ w=>
 DoX prog (mStore 30 t6 t21) w (pk K) fun _ w=>
 RetX prog [.cell t4 50,.cell t5 48,.cell t6 30] w K) (DoX prog (mFunc (.func 38) #[] #[t4,t5,t6]) w (pk K) fun t27 w=>
 DfrX (dfrV t27 #[]) (fun d1=>
 DoX prog (mLoad 50 t2) w (S_font_Make_p0 d1 t4 t5 t6 K) fun t28 w=>
 DoX prog (mBuild 77 #[(0,t28)]) w (S_font_Make_p0 d1 t4 t5 t6 K) fun t29 w=>
 DoX prog (mBox 77 t29) w (S_font_Make_p0 d1 t4 t5 t6 K) fun t30 w=>
 JoinX (fun J2=>
 DoX prog (mFA 26 t3 1) w (S_font_Make_p0 d1 t4 t5 t6 K) fun t31 w=>
 DoX prog (mLoad 4 t31) w (S_font_Make_p0 d1 t4 t5 t6 K) fun t32 w=>
 IfX t32 (DoX prog (mLoad 26 t3) w (S_font_Make_p0 d1 t4 t5 t6 K) fun t34 w=>
 CallX prog 39 #[t30,t34] w (S_font_Make_p0 d1 t4 t5 t6 K) fun t35 w=>
 AtX [d1] [d1] (J2 [t35] w)) (DoX prog (mLoad 26 t3) w (S_font_Make_p0 d1 t4 t5 t6 K) fun t36 w=>
 CallX prog 40 #[t36] w (S_font_Make_p0 d1 t4 t5 t6 K) fun t37 w=>
 AtX [d1] [d1] (J2 [t37] w))) (fun vs2 w=>∀_:Sg,S_font_Make_0 t3 t4 t5 t6 t30 (vs2.getD 0 undef) d1 w K))))
theorem S_font_Make_eq (t0 t1:Value)(w:World)(K:Ending→World→Prop):wpX prog 75 [(13,[10]),(17,[10])] [] none (bodyOf Tryz.f21) (topQ prog [.cell 4 50,.cell 5 48,.cell 6 30] K) (startX [t0,t1]) [] w=S_font_Make t0 t1 w K:=by kernel_rfl
theorem S_font_Make_ok {t0 t1:Value}{w:World}{K:Ending→World→Prop}(h:S_font_Make t0 t1 w K):Calls prog 21 #[t0,t1] w K:=
 calls_of_wpX Tryz.func21 rfl rfl rfl rfl (Eq.mpr (S_font_Make_eq t0 t1 w K) h)
def S_docs_Add (t0 t1:Value)(w:World)(K:Ending→World→Prop):Prop:=
 DoX prog (mBox 50 t0) w (pk K) fun t2 w=>
 DoX prog (mBox 48 t1) w (pk K) fun t3 w=>
 DoX prog (mAlloc 50) w (pk K) fun t4 w=>
 DoX prog (mLoad 50 t2) w (pk K) fun t10 w=>
 CallX prog 105 #[t10] w (pk K) fun t11 w=>
 DoX prog (mExt t11 0) w (pk K) fun t12 w=>
 DoX prog (mExt t11 1) w (pk K) fun t13 w=>
 DoX prog (mEq .neq 30 (.tmp 14) (.const (.int .i64 0)) t13 (.int .i64 0)) w (pk K) fun t15 w=>
 IfX t15 (DoX prog (mBuild 50 #[]) w (pk K) fun t16 w=>
 DoX prog (mStore 50 t4 t16) w (pk K) fun _ w=>
 RetX prog [.cell t4 50,.val (.int .i64 0),.val t13] w K) (DoX prog (mLoad 50 t2) w (pk K) fun t19 w=>
 DoX prog (mLoad 48 t3) w (pk K) fun t21 w=>
 DoX prog (mBuild 89 #[(0,t12),(2,t21)]) w (pk K) fun t22 w=>
 CallX prog 106 #[t19,t22] w (pk K) fun t23 w=>
 DoX prog (mExt t23 0) w (pk K) fun t24 w=>
 DoX prog (mExt t23 1) w (pk K) fun t25 w=>
 DoX prog (mStore 50 t2 t24) w (pk K) fun _ w=>
 DoX prog (mEq .neq 30 (.tmp 26) (.const (.int .i64 0)) t25 (.int .i64 0)) w (pk K) fun t27 w=>
 IfX t27 (DoX prog (mBuild 50 #[]) w (pk K) fun t28 w=>
 DoX prog (mStore 50 t4 t28) w (pk K) fun _ w=>
 RetX prog [.cell t4 50,.val (.int .i64 0),.val t25] w K) (DoX prog (mLoad 50 t2) w (pk K) fun t30 w=>
 DoX prog (mStore 50 t4 t30) w (pk K) fun _ w=>
 RetX prog [.cell t4 50,.val t12,.val (.int .i64 0)] w K))
theorem S_docs_Add_eq (t0 t1:Value)(w:World)(K:Ending→World→Prop):wpX prog 32 [] [] none (bodyOf Tryz.f76) (topQ prog [.cell 4 50,.tmp 5,.tmp 6] K) (startX [t0,t1]) [] w=S_docs_Add t0 t1 w K:=by kernel_rfl
theorem S_docs_Add_ok {t0 t1:Value}{w:World}{K:Ending→World→Prop}(h:S_docs_Add t0 t1 w K):Calls prog 76 #[t0,t1] w K:=
 calls_of_wpX Tryz.func76 rfl rfl rfl rfl (Eq.mpr (S_docs_Add_eq t0 t1 w K) h)
def S_docs_Free_0 (t5:Value)(w:World)(K:Ending→World→Prop):Prop:=
 DoX prog (mBin .gtr 3 t5 (.int .i64 8191)) w (pk K) fun t26 w=>
 IfX t26 (K (.returned (.tuple #[(.int .i64 0),(.int .i64 30)])) w) (K (.returned (.tuple #[t5,(.int .i64 0)])) w)
def S_docs_Free (t0:Value)(w:World)(K:Ending→World→Prop):Prop:=
 DoX prog (mBox 50 t0) w (pk K) fun t1 w=>
 DoX prog (mLoad 50 t1) w (pk K) fun t7 w=>
 CallX prog 37 #[t7] w (pk K) fun t8 w=>
 DoX prog (mEq .neq 30 (.tmp 9) (.const (.int .i64 0)) t8 (.int .i64 0)) w (pk K) fun t10 w=>
 IfX t10 (K (.returned (.tuple #[(.int .i64 0),t8])) w) (JoinX (fun J1=>
 DoX prog (mFA 50 t1 0) w (pk K) fun t12 w=>
 DoX prog (mLoad 45 t12) w (pk K) fun t13 w=>
 DoX prog (mB .len #[45] 3 #[false] #[t13]) w (pk K) fun t14 w=>
 DoX prog (mBin .gtr 3 t14 (.int .i64 0)) w (pk K) fun t16 w=>
 IfX t16 (DoX prog (mFA 50 t1 0) w (pk K) fun t17 w=>
 DoX prog (mLoad 45 t17) w (pk K) fun t18 w=>
 DoX prog (mBin .sub 3 t14 (.int .i64 1)) w (pk K) fun t20 w=>
 DoX prog (mIA 45 t18 t20) w (pk K) fun t21 w=>
 DoX prog (mFA 89 t21 0) w (pk K) fun t22 w=>
 DoX prog (mLoad 3 t22) w (pk K) fun t23 w=>
 DoX prog (mBin .add 3 t23 (.int .i64 1)) w (pk K) fun t24 w=>
 J1 [t24] w) (J1 [(.int .i64 1)] w)) (fun vs1 w=>∀_:Sg,S_docs_Free_0 (vs1.getD 0 undef) w K))
theorem S_docs_Free_eq (t0:Value)(w:World)(K:Ending→World→Prop):wpX prog 28 [(8,[5])] [] none (bodyOf Tryz.f105) (topQ prog [.tmp 2,.tmp 3] K) (startX [t0]) [] w=S_docs_Free t0 w K:=by kernel_rfl
theorem S_docs_Free_ok {t0:Value}{w:World}{K:Ending→World→Prop}(h:S_docs_Free t0 w K):Calls prog 105 #[t0] w K:=
 calls_of_wpX Tryz.func105 rfl rfl rfl rfl (Eq.mpr (S_docs_Free_eq t0 w K) h)
end
section
open Eng Go.RowKit
namespace Fo
inductive Arg
|s (x:List UInt8)
|o (x:Ob)
def Arg.ob:Arg→Ob
|.s x=>nm x
|.o x=>x
end Fo
def ArV (A:Nat→Prop)(w:World)(v:Value):Fo.Arg→Prop
|.s x=>v=.iface 9 (.string ⟨x.toArray⟩)
|.o x=>∃vk vc,v=.iface 48 (obV x vk vc)∧OV A w (obV x vk vc) x
def ArVs (A:Nat→Prop)(w:World):List Value→List Fo.Arg→Prop
|[],[]=>True
|v::vs,a::ags=>ArV A w v a∧ArVs A w vs ags
|_,_=>False
theorem ArV.le {M N:Mem}(h:M.le N){v:Value}:∀{a:Fo.Arg},ArV M.A M.w v a→ArV N.A N.w v a
|.s _,e=>e
|.o _,⟨vk,vc,e,hv⟩=>⟨vk,vc,e,hv.le h⟩
theorem ArVs.le {M N:Mem}(h:M.le N):∀{vs:List Value} {ags:List Fo.Arg},ArVs M.A M.w vs ags→ArVs N.A N.w vs ags
|[],[],_=>trivial
|_::_,_::_,⟨h1,h2⟩=>⟨h1.le h,ArVs.le h h2⟩
|[],_::_,e=>e.elim
|_::_,[],e=>e.elim
theorem ArVs.len {A:Nat→Prop}{w:World}:∀{vs:List Value} {ags:List Fo.Arg},ArVs A w vs ags→vs.length=ags.length
|[],[],_=>rfl
|_::_,_::_,⟨_,h2⟩=>congrArg (·+ 1) (ArVs.len h2)
|[],_::_,e=>e.elim
|_::_,[],e=>e.elim
theorem ArVs.get {A:Nat→Prop}{w:World}:∀{vs:List Value} {ags:List Fo.Arg} {i:Nat},ArVs A w vs ags→(hi:i < ags.length)→∃v,vs[i]?=some v∧ArV A w v ags[i]
|_::_,_::_,0,⟨h1,_⟩,_=>⟨_,rfl,h1⟩
|_::_,_::_,i+1,⟨_,h2⟩,hi=>by
  obtain⟨v,e,h⟩:=ArVs.get h2 (Nat.lt_of_succ_lt_succ hi);exact⟨v,by simpa using e,h⟩
|_::_,[],_,e,_=>e.elim
|[],_::_,_,e,_=>e.elim
theorem ArVs.append {A:Nat→Prop}{w:World}:∀{vs us:List Value} {ags bs:List Fo.Arg},ArVs A w vs ags→ArVs A w us bs→ArVs A w (vs++us) (ags++bs)
|[],_,[],_,_,h=>h
|_::_,_,_::_,_,⟨h1,h2⟩,h=>⟨h1,ArVs.append h2 h⟩
|[],_,_::_,_,e,_=>e.elim
|_::_,_,[],_,e,_=>e.elim
theorem nAny47:notAgg prog 20=true:=by kernel_rfl
theorem nfStr47:notIface prog 9=true:=by kernel_rfl
theorem nfOb47:notIface prog 48=true:=by kernel_rfl
theorem t_miss47 {w:World}{PK:PKT}{K:VWP}{v:Value}:DoX prog (mTA (.iface 48 v) 20 9 true) w PK K=K (.tuple #[.string ⟨#[]⟩,.bool false]) w:=do_eq (by kernel_rfl)
theorem any_at {M:Mem}{v:Value}{vs:List Value}{n:Nat}(hn:vs.length=n)(hs:SlA M.A M.w v 1 n vs){i:Nat}(hi:i < n) :
  ∃p,(∀W,(mIA 78 v (.int .i64 (i:Int))).run prog W=.ok (.value (.pointer (some p))) W)∧∀W,M.has W→∀u,vs[i]?=some u→(mLoad 20 (.pointer (some p))).run prog W=.ok (.value u) W:=by
 obtain⟨b,off,cap,rfl,_⟩:=sl_open hs.1 (by omega);refine⟨⟨b,off+i,none⟩,fun W=>?_,fun W hk u hu=>?_⟩
 ·have:=run_ia (P:=prog) (T:=78) (b:=b) (off:=off) (cap:=cap) (n:=n) (k:=.i64) (i:=(i:Int)) (w:=W) Tryz.underlying78 (show _=some 1 by kernel_rfl) (by omega) (by omega);rw[Int.toNat_natCast,Nat.mul_one] at this;exact this
 ·obtain⟨b',off',cap',he,hc⟩:=sl_open (hs.now hk) (by omega);cases he;exact run_load_cell nAny47 (hc i _ hu)
theorem ob1_ovM (M:Mem)(k n g:Int)(s:List UInt8):OV M.A M.w (obV (ob1 k n g s) nilS nilS) (ob1 k n g s):=ObAt.ov (o:=ob1 k n g s) ⟨SlA.nil _ _ _ _,SlA.nil _ _ _ _,OVs.nil⟩
theorem Fo.wts_ints:∀l:List Int,Ob.wts (l.map Fo.int)=6*l.length
|[]=>rfl
|n::l=>by
  rw[List.map_cons,Ob.wts,Fo.wts_ints l,List.length_cons];have:(Fo.int n).wt=6:=rfl;omega
theorem m_it02 {w:World}{PK:PKT}{K:VWP}{a:Int}(o:Ob){vk vc:Value}(hk:vk.oneCell'=true)(hc:vc.oneCell'=true):DoX prog (mBuild 89 #[(0,.int .i64 a),(2,obV o vk vc)]) w PK K=K (itV ⟨a,0,o⟩ vk vc) w:=by
 cases vk<;>first|(cases hk;done)|skip
 all_goals cases vc<;>first|(cases hc;done)|exact do_eq (by kernel_rfl)
theorem dict47_ret (ags:List Fo.Arg)(v:Value)(vs:List Value)(M:Mem)(w:World)(hw:Ob.wts (ags.map Fo.Arg.ob)≤1000000000)(hM:M.has w)(hs:SlA M.A M.w v 1 ags.length vs)(ha:ArVs M.A M.w vs ags) :
  RetM prog 45 #[v] M w (fun r N=>∃v',r=errV v' (Vl.dict (ags.map Fo.Arg.ob)).2∧OV N.A N.w v' (Vl.dict (ags.map Fo.Arg.ob)).1):=by
 have hal:ags.length≤1000000000:=by have:=Ob.len_wts (ags.map Fo.Arg.ob);rw[List.length_map] at this;omega
 refine retM_of hM fun K hK=>S_font_dict_ok ?_;unfold S_font_dict;refine o_oba (OwnS.memS hM) fun b2 w1 ho=>?_;rw[sl_len Tryz.underlying78 (hs.now (ho.hasM 1 rfl))];have ho:=OwnS.nilU ho 48 6;refine loop (fun us W=>∃(i:Nat) (u:Value) (cs:List Value) (N:Mem),us=[u,.int .i64 (i:Int)]∧i≤ags.length∧M.le N∧OVs N.A N.w cs ((ags.take i).map Fo.Arg.ob)∧OwnS M.A w W [.urow 48 6 u i cs,obE b2 ob0 nilS nilS,.mem N]) (fun us _=>ags.length - n1 us) ⟨0,_,[],M,rfl,by omega,M.le_refl,OVs.nil,ho⟩ ?_;clear ho;rintro us w2 ⟨i,u,cs,N,rfl,hi,hle,hos,ho⟩ _;simp only[S_font_dict_0,gd,rs];by_cases hlt:(i:Int) < (ags.length:Int)
 case neg=>
  simp only[decide_eq_false hlt,i_f];have:i=ags.length:=by omega
  subst this;rw[List.take_length] at hos;obtain⟨N2,l2,hs2,ho⟩:=OwnS.freezeU ho 1 rfl;refine c_mem ho 1 rfl (vdict_ret (ags.map Fo.Arg.ob) u cs N2 w2 hw (ho.hasM 1 rfl) (by rw[List.length_map];exact hs2) (hos.le l2)) ?_;rintro _ N3 w3 l3 ⟨y,rfl,hy⟩ ho;obtain⟨yk,yc,ycs,rfl,hya⟩:=hy.open;simp only[errV,ex];refine ob_put 0 hya.keys.one hya.kids.one ho rfl fun w4 ho=>?_;exact ret_v2 (rv_cell (ho.agg 0 rfl aggOb)) rv_val (hK _ _ N3 _ 1 ho rfl ((hle.trans l2).trans l3) ⟨_,rfl,hya.ov⟩)
 simp only[decide_eq_true hlt,i_t];have hi':i < ags.length:=by omega
 obtain⟨p,ip,lp⟩:=any_at ha.len hs hi';obtain⟨x,hx,hxa⟩:=ha.get hi';refine joinF (fun us W=>∃(u:Value) (cs:List Value) (N:Mem),us=[u]∧M.le N∧OVs N.A N.w cs ((ags.take (i+1)).map Fo.Arg.ob)∧OwnS M.A w W [.urow 48 6 u (i+1) cs,obE b2 ob0 nilS nilS,.mem N]) (fun J hJ=>?_) ?_
 ·rw[do_eq (ip w2),do_eq (lp w2 (Mem.has_of hle (ho.hasM 2 rfl)) x hx)];have htk:(ags.take (i+1)).map Fo.Arg.ob=(ags.take i).map Fo.Arg.ob++[ags[i].ob]:=by rw[List.take_succ_eq_append_getElem hi',List.map_append];rfl
  rw[htk] at hJ;cases ha':ags[i] with
 |s y=>
   rw[ha'] at hxa hJ;rw[show x=_ from hxa,t_hit nfStr47];simp only[ex,i_t];refine c_below ho (R:=fun v=>v=obV (ob1 5 0 0 y) nilS nilS) (vname_ret y w2) ?_;rintro _ w3 rfl ho;refine o_ob1 (ob1 5 0 0 y) rfl rfl ho fun b8 w4 ho=>?_;refine o_apO 1 ho rfl (ho.sl 0 rfl 6 1 1 rfl) (obC_one _ rfl rfl) (by omega) fun u' w5 ho=>?_;exact hJ _ _ ⟨u',_,N,rfl,hle,OVs.snoc rfl (ob1_ovM N 5 0 0 y) _ _ hos,ho.tail⟩
 |o y=>
   rw[ha'] at hxa hJ;obtain⟨yk,yc,rfl,hyv⟩:=hxa;rw[t_miss47];simp only[ex,i_f];rw[t_hit nfOb47];simp only[ex,i_t];refine o_oba ho fun b7 w3 ho=>?_;refine ob_put 0 hyv.oneK hyv.oneC ho rfl fun w4 ho=>?_;rw[ob_v ho 0 rfl];refine o_ob1 y hyv.oneK hyv.oneC ho fun b8 w5 ho=>?_;refine o_apO 2 ho rfl (ho.sl 0 rfl 6 1 1 rfl) (obC_one _ hyv.oneK hyv.oneC) (by omega) fun u' w6 ho=>?_;exact hJ _ _ ⟨u',_,N,rfl,hle,OVs.snoc rfl (hyv.le hle) _ _ hos,ho.tail.tail⟩
 clear ho;rintro us W ⟨u,cs,N,rfl,hle,hos,ho⟩ _;simp only[S_font_dict_1,gd,rs];rw[wrap64_id (by omega) (by omega)];exact nextX ⟨i+1,u,cs,N,rfl,by omega,hle,hos,ho⟩ (by simp[n1,RowKit.intOf];omega)
theorem ints47_ret (l:List Int)(v:Value)(M:Mem)(w:World)(hl:l.length≤100000000)(hM:M.has w)(hs:SlA M.A M.w v 1 l.length (intsW l)) :
  RetM prog 69 #[v] M w (fun r N=>OV N.A N.w r (Fo.arr (l.map Fo.int))):=by
 refine retM_of hM fun K hK=>S_font_ints_ok ?_;unfold S_font_ints;refine o_oba (OwnS.memS hM) fun b2 w1 ho=>?_;rw[sl_len Tryz.underlying22 (hs.now (ho.hasM 1 rfl))];have ho:=OwnS.nilU ho 48 6;refine loop (fun us W=>∃(i:Nat) (u:Value) (cs:List Value),us=[u,.int .i64 (i:Int)]∧i≤l.length∧OVs M.A M.w cs ((l.take i).map Fo.int)∧OwnS M.A w W [.urow 48 6 u i cs,obE b2 ob0 nilS nilS,.mem M]) (fun us _=>l.length - n1 us) ⟨0,_,[],rfl,by omega,OVs.nil,ho⟩ ?_;clear ho;rintro us w2 ⟨i,u,cs,rfl,hi,hos,ho⟩ _;simp only[S_font_ints_0,gd,rs];by_cases hlt:(i:Int) < (l.length:Int)
 case neg=>
  simp only[decide_eq_false hlt,i_f];have:i=l.length:=by omega
  subst this;rw[List.take_length] at hos;obtain⟨N2,l2,hs2,ho⟩:=OwnS.freezeU ho 1 rfl;refine c_mem ho 1 rfl (varr_ret (l.map Fo.int) u cs N2 w2 (by rw[Fo.wts_ints];omega) (ho.hasM 1 rfl) (by rw[List.length_map];exact hs2) (hos.le l2)) ?_;intro y N3 w3 l3 hy ho;obtain⟨yk,yc,ycs,rfl,hya⟩:=hy.open;refine ob_put 0 hya.keys.one hya.kids.one ho rfl fun w4 ho=>?_;exact ret_v1 (rv_cell (ho.agg 0 rfl aggOb)) (hK _ _ N3 _ 1 ho rfl (l2.trans l3) hya.ov)
 simp only[decide_eq_true hlt,i_t];have hi':i < l.length:=by omega
 obtain⟨p,ip,lp⟩:=i64_at47 hs hi';rw[do_eq (ip w2),do_eq (lp w2 (ho.hasM 2 rfl))];refine c_below ho (R:=fun v=>v=obV (ob1 2 l[i] 0 []) nilS nilS) (vint_ret l[i] w2) ?_;rintro _ w3 rfl ho;refine o_ob1 (ob1 2 l[i] 0 []) rfl rfl ho fun b8 w4 ho=>?_;refine o_apO 1 ho rfl (ho.sl 0 rfl 6 1 1 rfl) (obC_one _ rfl rfl) (by omega) fun u' w5 ho=>?_
 try simp only[rs]
 rw[wrap64_id (by omega) (by omega)];refine nextX ⟨i+1,u',_,rfl,by omega,?_,ho.tail⟩ (by simp[n1,RowKit.intOf];omega);rw[List.take_succ_eq_append_getElem hi',List.map_append];exact OVs.snoc rfl (ob1_ovM M 2 l[i] 0 []) _ _ hos
namespace Dk
def next (d:Dc):Int:=match d.items.getLast? with
|none=>1
|some i=>i.num+1
end Dk
theorem dfree_ret (d:Dc)(dv:Value)(M:Mem)(w:World)(hd:Dk.Ok d)(hc:Dk.check d=0)(hn:Dk.next d≤8191)(h0:∀i∈d.items,-1000000≤i.num)(hM:M.has w)(hdv:DV M.A M.w dv d) :
  RetM prog 105 #[dv] M w (fun r _=>r=.tuple #[.int .i64 (Dk.next d),.int .i64 0]):=by
 have hdv0:=hdv;obtain⟨vi,tk,tc,cs,rfl,hda⟩:=hdv;refine retM_of hM fun K hK=>S_docs_Free_ok ?_;unfold S_docs_Free;refine o_dcb d hda.items.one hda.trailer.oneK hda.trailer.oneC (OwnS.memS hM) fun b1 w1 ho=>?_;rw[dc_v ho 0 rfl];refine c_mem ho 1 rfl (dcheck_ret d _ M w1 hd (ho.hasM 1 rfl) hdv0) ?_;rintro _ N w2 hle rfl ho;simp only[hc,n_err,show decide ((0:Int)≠0)=false from rfl,i_f];refine joinF (fun us W=>us=[.int .i64 (Dk.next d)]∧W=w2) (fun J hJ=>?_) ?_
 ·rw[fa_d0,dc_items ho 0 rfl,sl_len Tryz.underlying45 ((hda.le hle).items.now (ho.hasM 1 rfl))]
  try simp only[rs]
  by_cases hl:0 < (d.items.length:Int)
  ·simp only[decide_eq_true hl,i_t];have hll:d.items.length - 1 < d.items.length:=by omega
   have hil:=hd.1;rw[fa_d0,dc_items ho 0 rfl]
   try simp only[rs]
   rw[wrap64_id (by omega) (by omega),show (d.items.length:Int) - 1=((d.items.length - 1:Nat):Int) by omega];obtain⟨ik,ic,b,off,_,hr⟩:=item_at (hda.le hle).items (hda.le hle).all hll;obtain⟨r1,r2⟩:=hr w2 (ho.hasM 1 rfl);have r2:=r2 0 _ rfl;rw[Nat.add_zero] at r2;rw[do_eq r1,fa_i0,l_cell nInt5 r2];have hlast:Dk.next d=d.items[d.items.length - 1].num+1:=by
    unfold Dk.next
    rw[List.getLast?_eq_getElem?,List.getElem?_eq_getElem hll]
   have hm:=h0 _ (List.getElem_mem hll)
   try simp only[rs]
   rw[wrap64_id (by omega) (by omega),←hlast];exact hJ _ _ ⟨rfl,rfl⟩
  ·simp only[decide_eq_false hl,i_f];have:d.items=[]:=List.eq_nil_of_length_eq_zero (by omega);exact hJ _ _ ⟨by unfold Dk.next;rw[this];rfl,rfl⟩
 rintro us W ⟨rfl,rfl⟩ _;simp only[S_docs_Free_0,gd,rs];simp only[decide_eq_false (show ¬8191 < Dk.next d by omega),i_f];exact hK _ _ N _ 1 ho rfl hle rfl
theorem dadd_ret (d:Dc)(o:Ob)(dv v:Value)(M:Mem)(w:World)(hd:Dk.Ok d)(hl:d.items.length < 10000000000)(hw:o.wt≤1000000000)(hc:Dk.check d=0)(hn:Dk.next d≤8191)(h0:∀i∈d.items,-1000000≤i.num)(hp:(Dk.put d ⟨Dk.next d,0,o⟩).2=0)(hM:M.has w)(hdv:DV M.A M.w dv d)(hv:OV M.A M.w v o) :
  RetM prog 76 #[dv,v] M w (fun r N=>∃v',r=.tuple #[v',.int .i64 (Dk.next d),.int .i64 0]∧DV N.A N.w v' (Dk.put d ⟨Dk.next d,0,o⟩).1):=by
 have hdv0:=hdv;obtain⟨vi,tk,tc,cs,rfl,hda⟩:=hdv;obtain⟨vk,vc,ocs,rfl,ha⟩:=hv.open;refine retM_of hM fun K hK=>S_docs_Add_ok ?_;unfold S_docs_Add;refine o_dcb d hda.items.one hda.trailer.oneK hda.trailer.oneC (OwnS.memS hM) fun b2 w1 ho=>?_;refine o_obb o ha.keys.one ha.kids.one ho fun b3 w2 ho=>?_;refine o_dca ho fun b4 w3 ho=>?_;have ho:OwnS M.A w w3 [dcE b4 Dk.dc0 nilS nilS nilS,obE b3 o vk vc,dcE b2 d vi tk tc,.mem M]:=ho;rw[dc_v ho 2 rfl];refine c_mem ho 3 rfl (dfree_ret d _ M w3 hd hc hn h0 (ho.hasM 3 rfl) hdv0) ?_;rintro _ N w4 hle rfl ho;simp only[ex,n_err,show decide ((0:Int)≠0)=false from rfl,i_f];rw[dc_v ho 2 rfl,ob_v ho 1 rfl,m_it02 o ha.keys.one ha.kids.one];refine c_mem ho 3 rfl (dput_ret d ⟨Dk.next d,0,o⟩ _ _ N w4 hd hl hw (ho.hasM 3 rfl) ⟨vi,tk,tc,cs,rfl,hda.le hle⟩ ⟨vk,vc,rfl,hv.le hle⟩) ?_;rintro _ N2 w5 l2 ⟨y,rfl,hy⟩ ho;rw[hp];generalize (Dk.put d ⟨Dk.next d,0,o⟩).1=d2 at *;obtain⟨yi,yk,yc,ycs,rfl,hya⟩:=hy;simp only[errV,ex];refine dc_put 2 (d':=d2) hya.items.one hya.trailer.oneK hya.trailer.oneC ho rfl fun w6 ho=>?_;simp only[n_err,show decide ((0:Int)≠0)=false from rfl,i_f];rw[dc_v ho 2 rfl];refine dc_put 0 (d':=d2) hya.items.one hya.trailer.oneK hya.trailer.oneC ho rfl fun w7 ho=>?_;exact ret_v3 (rv_cell (ho.agg 0 rfl aggDc)) rv_val rv_val (hK _ _ N2 _ 3 ho rfl (hle.trans l2) ⟨_,rfl,yi,yk,yc,ycs,rfl,hya⟩)
end
section
open Eng Go.RowKit
namespace Fo
def descA (f:Ft):List Arg:=[.s kType,.s kDesc,.s kFName,.s f.name,.s kMiss,.o (int f.missing)]
def headA (f:Ft):List Arg:=[.s kType,.s kFont,.s kSub,.s kT1,.s kBase,.s f.name]
def firstA (f:Ft):List Arg:=if f.first < 256 then [.s kFirst,.o (int f.first)] else []
def widA (f:Ft):List Arg:=if f.widths=[] then [] else [.s kWid,.o (arr (f.widths.map int))]
def missA (f:Ft):List Arg:=if 0 < f.missing then [.s kDesc,.o (mkD (descP f))] else []
def narrowA (f:Ft):List Arg:=headA f++firstA f++widA f++missA f
theorem desc_ob (f:Ft):(descA f).map Arg.ob=flatP (descP f):=rfl
theorem narrow_ob {f:Ft}(h:f.names=[]):(narrowA f).map Arg.ob=flatP (narrowP f):=by
 unfold narrowA narrowP firstA widA missA headA;by_cases h1:f.first < 256<;>by_cases h2:f.widths=[]<;>by_cases h3:0 < f.missing<;>simp[h,h1,h2,h3,flatP,Arg.ob]
end Fo
theorem run_ifS (x:Value)(W:World):(mIface 9 x).run prog W=.ok (.value (.iface 9 x)) W:=by kernel_rfl
theorem run_ifO (x:Value)(W:World):(mIface 48 x).run prog W=.ok (.value (.iface 48 x)) W:=by kernel_rfl
theorem elAny:elB prog 20 1 16=true:=by kernel_rfl
abbrev sV (x:List UInt8):Value:=.iface 9 (.string ⟨x.toArray⟩)
abbrev oV (x:Value):Value:=.iface 48 x
abbrev anE (u:Value)(vs:List Value):Ent:=.urow 20 1 u vs.length vs
section
variable {w:World}{PK PK2:PKT}{K:VWP}{S:Nat→Prop}{w0:World}{L:List Ent}
theorem o_any2 (x y:Value)(ho:OwnS S w0 w L)(k:∀b w',OwnS S w0 w' (.cells b [.iface 9 x,.iface 48 y] 20::L)→K (.slice (some ⟨b,0,none⟩) 2 2) w') :
  DoX prog (mBuildS 78 2 #[(0,.iface 9 x),(1,.iface 48 y)]) w PK K:=
 o_new (fun b=>.slice (some ⟨b,0,none⟩) 2 2) [.iface 9 x,.iface 48 y] 20 (fun _=>by kernel_rfl) ho k
theorem o_any6 (a b c d e g:Value)(T:TypeId)(ho:OwnS S w0 w L)(k:∀q w',OwnS S w0 w' (.cells q [.iface 9 a,.iface 9 b,.iface 9 c,.iface 9 d,.iface 9 e,.iface T g] 20::L)→K (.slice (some ⟨q,0,none⟩) 6 6) w') :
  DoX prog (mBuildS 78 6 #[(0,.iface 9 a),(1,.iface 9 b),(2,.iface 9 c),(3,.iface 9 d),(4,.iface 9 e),(5,.iface T g)]) w PK K:=
 o_new (fun b=>.slice (some ⟨b,0,none⟩) 6 6) [.iface 9 a,.iface 9 b,.iface 9 c,.iface 9 d,.iface 9 e,.iface T g] 20 (fun _=>by kernel_rfl) ho k
theorem o_apAny (i:Nat){u x y:Value}{vs:List Value}{cb:Array Bool}(ho:OwnS S w0 w L)(hi:L[i]?=some (anE u vs))(hl:vs.length≤1000000000)(k:∀u' w',OwnS S w0 w' (L.set i (anE u' (vs++[.iface 9 x,.iface 48 y])))→K u' w') :
  DoX prog (mBuildS 78 2 #[(0,.iface 9 x),(1,.iface 48 y)]) w PK fun t w=>DoX prog (mB .append #[78,78] 78 cb #[u,t]) w PK2 K:=by
 refine o_any2 x y ho fun b w1 ho=>?_;refine o_appendU (i+1) Tryz.underlying78 elAny (by decide) ho (by rw[List.getElem?_cons_succ];exact hi) (ho.sl 0 rfl 1 2 2 rfl) (by simp[Value.oneCell']) (by omega) (by omega) fun u' w2 ho=>k u' w2 ?_;have e:anE u' (vs++[.iface 9 x,.iface 48 y])=.urow 20 1 u' (vs.length+2) (vs++[.iface 9 x,.iface 48 y]):=by rw[anE,List.length_append];rfl
 rw[e];exact ho.tail
end
theorem int_ovM (M:Mem)(n:Int):OV M.A M.w (obV (Fo.int n) nilS nilS) (Fo.int n):=ob1_ovM M 2 n 0 []
theorem desc_args (M:Mem)(f:Ft):ArVs M.A M.w [sV Fo.kType,sV Fo.kDesc,sV Fo.kFName,sV f.name,sV Fo.kMiss,oV (obV (Fo.int f.missing) nilS nilS)] (Fo.descA f):=
 ⟨rfl,rfl,rfl,rfl,rfl,⟨_,_,rfl,int_ovM M f.missing⟩,trivial⟩
theorem head_args (M:Mem)(f:Ft):ArVs M.A M.w [sV Fo.kType,sV Fo.kFont,sV Fo.kSub,sV Fo.kT1,sV Fo.kBase,sV f.name] (Fo.headA f):=⟨rfl,rfl,rfl,rfl,rfl,rfl,trivial⟩
theorem ArVs.two {M:Mem}{vs:List Value}{ags:List Fo.Arg}{k:List UInt8}{o:Ob}{vk vc:Value}(h:ArVs M.A M.w vs ags)(ho:OV M.A M.w (obV o vk vc) o):ArVs M.A M.w (vs++[sV k,oV (obV o vk vc)]) (ags++[.s k,.o o]):=
 h.append ⟨rfl,⟨vk,vc,rfl,ho⟩,trivial⟩
theorem narrowly47_ret (f:Ft)(wv nv mv:Value)(M:Mem)(w:World)(hg:Fo.Good f)(hok:FtOk f)(hn:f.names=[])(hM:M.has w)(h:FtAt M f wv nv mv) :
  RetM prog 40 #[ftV f wv nv mv] M w (fun r N=>∃vs,SlA N.A N.w r 1 (Fo.narrowA f).length vs∧ArVs N.A N.w vs (Fo.narrowA f)):=by
 refine retM_of hM fun K hK=>S_font_narrowly_ok ?_;unfold S_font_narrowly;refine o_ftb f h (OwnS.memS hM) fun b1 w1 ho=>?_;simp only[m_iface nfStr47];rw[fa_f0,ft_name ho 0 rfl]
 try simp only[m_iface nfStr47]
 refine o_any6 _ _ _ _ _ _ _ ho fun b2 w2 ho=>?_;have ho:=ho.toU 1 6 6 rfl (by omega) (by omega);have ho:OwnS M.A w w2 [anE (.slice (some ⟨b2,0,none⟩) 6 6) [sV Fo.kType,sV Fo.kFont,sV Fo.kSub,sV Fo.kT1,sV Fo.kBase,sV f.name],ftE b1 f wv nv mv,.mem M]:=ho;refine joinF (fun us W=>∃(u:Value) (vs:List Value),us=[u]∧ArVs M.A M.w vs (Fo.headA f++Fo.firstA f)∧OwnS M.A w W [anE u vs,ftE b1 f wv nv mv,.mem M]) (fun J hJ=>?_) ?_
 ·have hd:=head_args M f;rw[fa_f2,ft_first ho 1 rfl]
  try simp only[rs]
  by_cases h1:f.first < 256
  ·simp only[decide_eq_true h1,i_t]
   try rw[m_iface nfStr47]
   rw[fa_f2,ft_first ho 1 rfl];refine c_below ho (R:=fun v=>v=obV (Fo.int f.first) nilS nilS) (vint_ret f.first w2) ?_;rintro _ w3 rfl ho;rw[m_iface nfOb47];refine o_apAny 0 ho rfl (show 6≤1000000000 by decide) fun u w4 ho=>?_;refine hJ _ _ ⟨u,_,rfl,?_,ho⟩;rw[Fo.firstA,if_pos h1];exact hd.two (int_ovM M f.first)
  ·simp only[decide_eq_false h1,i_f];refine hJ _ _ ⟨_,_,rfl,?_,ho⟩;rw[Fo.firstA,if_neg h1,List.append_nil];exact hd
 clear ho;rintro us w3 ⟨u,vs,rfl,hvs,ho⟩ _;simp only[S_font_narrowly_0,gd];have hvl:vs.length≤8:=by
  rw[hvs.len];unfold Fo.firstA;split
  ·exact (show 8≤8 by decide)
  ·exact (show 6≤8 by decide)
 have hal:(Fo.headA f++Fo.firstA f).length≤8:=by rw[←hvs.len];exact hvl
 generalize he1:Fo.headA f++Fo.firstA f=a1 at *;refine joinF (fun us W=>∃(u:Value) (vs:List Value) (N:Mem),us=[u]∧M.le N∧ArVs N.A N.w vs (a1++Fo.widA f)∧OwnS M.A w W [anE u vs,ftE b1 f wv nv mv,.mem N]) (fun J hJ=>?_) ?_
 ·rw[fa_f3,ft_ws ho 1 rfl,sl_len Tryz.underlying22 (h.ws.now (ho.hasM 2 rfl))]
  try simp only[rs]
  by_cases h1:0 < (f.widths.length:Int)
  ·simp only[decide_eq_true h1,i_t]
   try rw[m_iface nfStr47]
   rw[fa_f3,ft_ws ho 1 rfl];refine c_mem ho 2 rfl (ints47_ret f.widths wv M w3 (by have:=hok.wl;omega) (ho.hasM 2 rfl) h.ws) ?_;intro y N w4 hle hy ho;obtain⟨yk,yc,ycs,rfl,hya⟩:=hy.open;rw[m_iface nfOb47];refine o_apAny 0 ho rfl (by omega) fun u w5 ho=>?_;refine hJ _ _ ⟨u,_,N,rfl,hle,?_,ho⟩;rw[Fo.widA,if_neg (fun e=>by rw[e] at h1;exact absurd h1 (by decide))];exact (hvs.le hle).two hya.ov
  ·simp only[decide_eq_false h1,i_f];refine hJ _ _ ⟨_,_,M,rfl,M.le_refl,?_,ho⟩;rw[Fo.widA,if_pos (List.eq_nil_of_length_eq_zero (by omega)),List.append_nil];exact hvs
 clear ho hvs hvl;rintro us w4 ⟨u,vs,N,rfl,hle,hvs,ho⟩ _;simp only[S_font_narrowly_1,gd];have hvl:vs.length≤10:=by
  rw[hvs.len,List.length_append];unfold Fo.widA;split
  ·show a1.length+0≤10;omega
  ·show a1.length+2≤10;omega
 have hal2:(a1++Fo.widA f).length≤10:=by rw[←hvs.len];exact hvl
 generalize he2:a1++Fo.widA f=a2 at *;refine joinF (fun us W=>∃(u:Value) (vs:List Value) (N':Mem),us=[u]∧M.le N'∧ArVs N'.A N'.w vs (a2++Fo.missA f)∧OwnS M.A w W [anE u vs,ftE b1 f wv nv mv,.mem N']) (fun J hJ=>?_) ?_
 ·rw[fa_f4,ft_miss ho 1 rfl]
  try simp only[rs]
  by_cases h1:0 < f.missing
  case neg=>
   simp only[decide_eq_false h1,i_f];refine hJ _ _ ⟨_,_,N,rfl,hle,?_,ho⟩;rw[Fo.missA,if_neg h1,List.append_nil];exact hvs
  simp only[decide_eq_true h1,i_t];have hD:=Fo.mkD_dict (Fo.desc_ok hg);have hwt:Ob.wts ((Fo.descA f).map Fo.Arg.ob)≤1000000000:=by
   have:=hg.name1;simp[Fo.descA,Fo.Arg.ob,Fo.nm,Fo.int,Ob.wts,Ob.wt,Pl.tot,Fo.kType,Fo.kDesc,Fo.kFName,Fo.kMiss];omega
  have ho:=ho.drew;have fin:∀{W:World} {N2:Mem} {b4:Nat} {yk yc:Value},M.le N2→N.le N2→OV N2.A N2.w (obV (Fo.mkD (Fo.descP f)) yk yc) (Fo.mkD (Fo.descP f))→OwnS M.A w W [obE b4 (Fo.mkD (Fo.descP f)) yk yc,anE u vs,ftE b1 f wv nv mv,.mem N2]→S_font_narrowly_2 u (.pointer (some ⟨b4,0,none⟩)) (.int .i64 0) W J K:=by
   intro W N2 b4 yk yc hle2 l2 hy ho;unfold S_font_narrowly_2;refine c_need47 rfl ?_;rw[m_iface nfStr47,ob_v ho 0 rfl,m_iface nfOb47];refine o_apAny 1 ho rfl (by omega) fun u' w5 ho=>?_;refine hJ _ _ ⟨u',_,N2,rfl,hle2,?_,ho.tail⟩;rw[Fo.missA,if_pos h1];exact (hvs.le l2).two hy
  have dict:∀{W:World} {L:List Ent} {PK':PKT} {K':VWP} {v:Value} (j:Nat) {N1:Mem},OwnS M.A w W L→L[j]?=some (.mem N1)→SlA N1.A N1.w v 1 6 [sV Fo.kType,sV Fo.kDesc,sV Fo.kFName,sV f.name,sV Fo.kMiss,oV (obV (Fo.int f.missing) nilS nilS)] →
    (∀N2 yk yc W',N1.le N2→OV N2.A N2.w (obV (Fo.mkD (Fo.descP f)) yk yc) (Fo.mkD (Fo.descP f))→OwnS M.A w W' (L.set j (.mem N2))→K' (.tuple #[obV (Fo.mkD (Fo.descP f)) yk yc,.int .i64 0]) W')→CallX prog 45 #[v] W PK' K':=by
   intro W L PK' K' v j N1 ho hj hs k;refine c_mem ho j hj (dict47_ret (Fo.descA f) v _ N1 W hwt (ho.hasM j hj) hs (desc_args N1 f)) ?_;rintro _ N2 W' l2 ⟨y,rfl,hy⟩ ho;rw[Fo.desc_ob,hD] at hy ⊢;obtain⟨yk,yc,ycs,rfl,hya⟩:=hy.open;exact k N2 yk yc W' l2 hya.ov ho
  have st:∀{W:World} {N2:Mem} {b4:Nat} {yk yc:Value} {PK':PKT},M.le N2→N.le N2→OV N2.A N2.w (obV (Fo.mkD (Fo.descP f)) yk yc) (Fo.mkD (Fo.descP f))→OwnS M.A w W [obE b4 ob0 nilS nilS,anE u vs,ftE b1 f wv nv mv,.mem N2] →
    DoX prog (mStore 48 (.pointer (some ⟨b4,0,none⟩)) (obV (Fo.mkD (Fo.descP f)) yk yc)) W PK' fun _ w=>S_font_narrowly_2 u (.pointer (some ⟨b4,0,none⟩)) (.int .i64 0) w J K:=by
   intro W N2 b4 yk yc PK' hle2 l2 hy ho;refine ob_put 0 hy.oneK hy.oneC ho rfl fun w8 ho=>?_;exact fin hle2 l2 hy ho
  refine⟨fun W=>(ftE b1 f wv nv mv).is W,ho.at_ 1 rfl,?_⟩;refine hd_pure _ (fun _=>run_ifS _ _) (hd_pure _ (fun _=>run_ifS _ _) (hd_pure _ (fun _=>run_ifS _ _) ?_));refine hd_pure _ (fun _=>run_fa (o:=0) (by kernel_rfl)) (hd_do _ (fun W h=>run_load_cell nStr5 (cells_cell (T:=26) h (i:=0) rfl)) ?_);refine hd_pure _ (fun _=>run_ifS _ _) (hd_pure _ (fun _=>run_ifS _ _) ?_);refine hd_pure _ (fun _=>run_fa (o:=4) (by kernel_rfl)) (hd_do _ (fun W h=>run_load_cell nI65 (cells_cell (T:=26) h (i:=4) rfl)) ?_);refine⟨?_,?_⟩
  ·refine c_below ho (R:=fun v=>v=obV (Fo.int f.missing) nilS nilS) (vint_ret f.missing _) ?_;rintro _ w5 rfl ho;refine⟨ho.at_ 1 rfl,hd_pure _ (fun _=>run_ifO _ _) ⟨?_,?_⟩⟩
   ·refine o_any6 _ _ _ _ _ _ _ ho fun bq w6 ho=>?_;obtain⟨N1,l1,hs1,ho⟩:=OwnS.freezeU (ho.toU 1 6 6 rfl (by omega) (by omega)) 2 rfl;refine⟨ho.at_ 1 rfl,?_,?_⟩
    ·refine dict 2 ho rfl hs1 fun N2 yk yc W' l2 hy ho=>⟨ho.at_ 1 rfl,hd_pure _ (fun _=>rfl) (hd_pure _ (fun _=>rfl) ?_)⟩;refine o_oba ho fun b4 w7 ho=>⟨ho.at_ 2 rfl,?_⟩;exact st ((hle.trans l1).trans l2) (l1.trans l2) hy ho
    ·refine o_oba ho fun b4 w7 ho=>⟨ho.at_ 2 rfl,?_⟩;refine dict 3 ho rfl hs1 fun N2 yk yc W' l2 hy ho=>⟨ho.at_ 2 rfl,hd_pure _ (fun _=>rfl) (hd_pure _ (fun _=>rfl) ?_)⟩;exact st ((hle.trans l1).trans l2) (l1.trans l2) hy ho
   ·refine o_oba ho fun b4 w6 ho=>⟨ho.at_ 2 rfl,?_⟩;refine o_any6 _ _ _ _ _ _ _ ho fun bq w7 ho=>?_;obtain⟨N1,l1,hs1,ho⟩:=OwnS.freezeU (ho.toU 1 6 6 rfl (by omega) (by omega)) 3 rfl;refine⟨ho.at_ 2 rfl,?_⟩;refine dict 3 ho rfl hs1 fun N2 yk yc W' l2 hy ho=>⟨ho.at_ 2 rfl,hd_pure _ (fun _=>rfl) (hd_pure _ (fun _=>rfl) ?_)⟩;exact st ((hle.trans l1).trans l2) (l1.trans l2) hy ho
  ·refine o_oba ho fun b4 w5 ho=>⟨ho.at_ 2 rfl,?_⟩;refine c_below ho (R:=fun v=>v=obV (Fo.int f.missing) nilS nilS) (vint_ret f.missing _) ?_;rintro _ w6 rfl ho;refine⟨ho.at_ 2 rfl,hd_pure _ (fun _=>run_ifO _ _) ?_⟩;refine o_any6 _ _ _ _ _ _ _ ho fun bq w7 ho=>?_;obtain⟨N1,l1,hs1,ho⟩:=OwnS.freezeU (ho.toU 1 6 6 rfl (by omega) (by omega)) 3 rfl;refine⟨ho.at_ 2 rfl,?_⟩;refine dict 3 ho rfl hs1 fun N2 yk yc W' l2 hy ho=>⟨ho.at_ 2 rfl,hd_pure _ (fun _=>rfl) (hd_pure _ (fun _=>rfl) ?_)⟩;exact st ((hle.trans l1).trans l2) (l1.trans l2) hy ho
 clear ho hvs hvl;rintro us w5 ⟨u,vs,N',rfl,hle',hvs,ho⟩ _;simp only[S_font_narrowly_3,gd];refine join fun J hJ=>?_;have hns:=(h.le hle').ns;rw[hn] at hns;rw[fa_f5,ft_nms ho 1 rfl,sl_len Tryz.underlying23 (hns.now (ho.hasM 2 rfl))]
 try simp only[rs]
 rw[decide_eq_false (show ¬(0:Int) < ((List.length ([]:List (List UInt8)):Nat):Int) by decide)]
 try simp only[i_f]
 refine hJ _ _ fun _=>?_;unfold S_font_narrowly_5;obtain⟨N2,l2,hs2,ho⟩:=OwnS.freezeU ho 1 rfl;have hna:Fo.narrowA f=a2++Fo.missA f:=by rw[←he2,←he1];rfl
 refine hK _ _ N2 _ 1 ho rfl (hle'.trans l2) ⟨vs,?_,?_⟩
 ·rw[hna,←hvs.len];exact hs2
 ·rw[hna];exact hvs.le l2
end
section
open Eng Go.RowKit
theorem r_not {P:Program}{w:World}{b:Bool}:(mUn .not (.bool b)).run P w=.ok (.value (.bool (!b))) w:=mv_run (by simp[Op.unary])
theorem r_faf {w:World}{b off:Nat}(i o:Nat)(h:fOff prog 26 i=some o):(mFA 26 (.pointer (some ⟨b,off,none⟩)) i).run prog w=.ok (.value (.pointer (some ⟨b,off+o,none⟩))) w:=run_fa h
theorem fo_f (i:Fin 7):fOff prog 26 i.val=some i.val:=by
 revert i;decide +kernel
namespace Fo
theorem may_split (f:Ft):may f=(named f.name 1&&decide (0≤f.first)&&decide (f.widths.length≤4096)&&decide (f.first+f.widths.length≤room f.wide)&&wid f.missing&&(f.widths.all wid&&((decide (f.names=[])||(!f.wide&&decide (f.names.length=256)))&&f.names.all fun s=>named s 0))):=by
 unfold may;simp only[Bool.and_assoc]
theorem all_drop {α:Type}(p:α→Bool){l:List α}{i:Nat}(hi:i < l.length):(l.drop i).all p=(p l[i]&&(l.drop (i+1)).all p):=by
 rw[List.drop_eq_getElem_cons hi,List.all_cons]
end Fo
theorem may47_ret (f:Ft)(wv nv mv:Value)(M:Mem)(w:World)(hok:FtOk f)(hM:M.has w)(h:FtAt M f wv nv mv):RetM prog 30 #[ftV f wv nv mv] M w (fun r _=>r=.bool (Fo.may f)):=by
 have hwl:=hok.wl;have hnl:=hok.nl;have hfi:=hok.first
 refine retM_of hM fun K hK=>S_font_may_ok ?_;rw[Fo.may_split] at hK;unfold S_font_may;refine o_ftb f h (OwnS.memS hM) fun b w1 ho=>?_;rw[fa_f3,ft_ws ho 0 rfl,sl_len Tryz.underlying22 (h.ws.now (ho.hasM 1 rfl))];have rest:∀W,OwnS M.A w W [ftE b f wv nv mv,.mem M]→(Fo.named f.name 1&&decide (0≤f.first)&&decide (f.widths.length≤4096)&&decide (f.first+f.widths.length≤Fo.room f.wide)&&Fo.wid f.missing)=true →
   DoX prog (mFA 26 (.pointer (some ⟨b,0,none⟩)) 3) W (pk K) (fun t40 w=>DoX prog (mLoad 22 t40) w (pk K) fun t41 w=>DoX prog (mB .len #[22] 3 #[false] #[t41]) w (pk K) fun t42 w=>
   LoopX [(.int .i64 0)] w (fun vs2 w N2=>∀_:Sg,S_font_may_0 (.pointer (some ⟨b,0,none⟩)) t41 t42 (vs2.getD 0 undef) w N2 K)):=by
  intro W ho hhead;rw[hhead,Bool.true_and] at hK;rw[fa_f3,ft_ws ho 0 rfl,sl_len Tryz.underlying22 (h.ws.now (ho.hasM 1 rfl))];refine loop (fun vs W=>∃i:Nat,vs=[.int .i64 (i:Int)]∧i≤f.widths.length∧f.widths.all Fo.wid=(f.widths.drop i).all Fo.wid∧OwnS M.A w W [ftE b f wv nv mv,.mem M]) (fun vs _=>f.widths.length - n0 vs) ⟨0,rfl,by omega,by simp,ho⟩ ?_;clear ho;rintro vs w2 ⟨i,rfl,hi,hal,ho⟩ _;simp only[S_font_may_0,gd,rs];by_cases hlt:(i:Int) < (f.widths.length:Int)
  ·simp only[decide_eq_true hlt,i_t];have hi':i < f.widths.length:=by omega
   obtain⟨g,off,cap,hwv,hc⟩:=sl_open (h.ws.now (ho.hasM 1 rfl)) (by omega);subst hwv;refine do_eq (run_ia Tryz.underlying22 (show _=some 1 by kernel_rfl) (by omega) (by omega)) |>.mpr ?_;rw[Int.toNat_natCast,Nat.mul_one,l_cell nI65 (hc i _ (intsW_get hi'))];refine c_eq (bounded47_ret f.widths[i] w2) ?_;rw[Fo.all_drop _ hi'] at hal;cases hwd:Fo.wid f.widths[i] with
  |false=>
    rw[hwd,Bool.false_and] at hal;rw[hal,Bool.false_and] at hK;simp only[rs,Bool.not_false,i_t];exact hK _ _ M _ 1 ho rfl M.le_refl rfl
  |true=>
    rw[hwd,Bool.true_and] at hal;simp only[rs,Bool.not_true,i_f];rw[wrap64_id (by omega) (by omega)];exact nextX ⟨i+1,rfl,by omega,hal,ho⟩ (by simp[n0,RowKit.intOf];omega)
  simp only[decide_eq_false hlt,i_f];rw[List.drop_of_length_le (by omega)] at hal;rw[hal,List.all_nil,Bool.true_and] at hK;rw[fa_f5,ft_nms ho 0 rfl,sl_len Tryz.underlying23 (h.ns.now (ho.hasM 1 rfl))]
  try simp only[rs]
  have loop3:∀{W:World},OwnS M.A w W [ftE b f wv nv mv,.mem M]→(decide (f.names=[])||(!f.wide&&decide (f.names.length=256)))=true→DoX prog (mFA 26 (.pointer (some ⟨b,0,none⟩)) 5) W (pk K) (fun t65 w=>
    DoX prog (mLoad 23 t65) w (pk K) fun t66 w=>DoX prog (mB .len #[23] 3 #[false] #[t66]) w (pk K) fun t67 w=>
    LoopX [(.int .i64 0)] w (fun vs3 w N3=>∀_:Sg,S_font_may_1 t66 t67 (vs3.getD 0 undef) w N3 K)):=by
   intro W ho hnm;rw[hnm,Bool.true_and] at hK;rw[fa_f5,ft_nms ho 0 rfl,sl_len Tryz.underlying23 (h.ns.now (ho.hasM 1 rfl))];refine loop (fun vs W=>∃i:Nat,vs=[.int .i64 (i:Int)]∧i≤f.names.length∧(f.names.all fun s=>Fo.named s 0)=(f.names.drop i).all (fun s=>Fo.named s 0)∧OwnS M.A w W [ftE b f wv nv mv,.mem M]) (fun vs _=>f.names.length - n0 vs) ⟨0,rfl,by omega,by simp,ho⟩ ?_;clear ho;rintro vs w2 ⟨i,rfl,hi,hal,ho⟩ _;simp only[S_font_may_1,gd,rs];by_cases hlt:(i:Int) < (f.names.length:Int)
   ·simp only[decide_eq_true hlt,i_t];have hi':i < f.names.length:=by omega
    obtain⟨g,off,cap,hnv,hc⟩:=sl_open (h.ns.now (ho.hasM 1 rfl)) (by omega);subst hnv;refine do_eq (run_ia Tryz.underlying23 (show _=some 1 by kernel_rfl) (by omega) (by omega)) |>.mpr ?_;rw[Int.toNat_natCast,Nat.mul_one,l_cell nStr5 (hc i _ (strsV_get hi'))];refine c_eq (named47_ret f.names[i] 0 w2 (by decide)) ?_;rw[Fo.all_drop _ hi'] at hal;cases hwd:Fo.named f.names[i] 0 with
   |false=>
     rw[hwd,Bool.false_and] at hal;rw[hal] at hK;simp only[rs,Bool.not_false,i_t];exact hK _ _ M _ 1 ho rfl M.le_refl rfl
   |true=>
     rw[hwd,Bool.true_and] at hal;simp only[rs,Bool.not_true,i_f];rw[wrap64_id (by omega) (by omega)];exact nextX ⟨i+1,rfl,by omega,hal,ho⟩ (by simp[n0,RowKit.intOf];omega)
   simp only[decide_eq_false hlt,i_f];rw[List.drop_of_length_le (by omega)] at hal;rw[hal,List.all_nil] at hK;exact hK _ _ M _ 1 ho rfl M.le_refl rfl
  by_cases hn0:(f.names.length:Int)=0
  ·have hnn:f.names=[]:=List.eq_nil_of_length_eq_zero (by omega);simp only[decide_eq_false (show ¬(f.names.length:Int)≠0 by omega),rs,g_un,i_f];exact loop3 ho (by rw[hnn];rfl)
  have hnn:f.names≠[]:=fun h=>hn0 (by rw[h];rfl);simp only[decide_eq_true (show (f.names.length:Int)≠0 by omega),rs];rw[fa_f1,ft_wide ho 0 rfl]
  try simp only[rs]
  cases hwide:f.wide with
 |true=>
   rw[decide_eq_false hnn,hwide] at hK;simp only[rs,g_un,i_t];exact hK _ _ M _ 1 ho rfl M.le_refl rfl
 |false=>
   try simp only[rs]
   rw[fa_f5,ft_nms ho 0 rfl]
   try simp only[rs]
   rw[sl_len Tryz.underlying23 (h.ns.now (ho.hasM 1 rfl))]
   try simp only[rs]
   by_cases h256:(f.names.length:Int)=256
   ·simp only[decide_eq_false (show ¬(f.names.length:Int)≠256 by omega),rs,i_f];exact loop3 ho (by rw[hwide,decide_eq_true (show f.names.length=256 by omega)];simp)
   ·rw[decide_eq_false hnn,decide_eq_false (show ¬f.names.length=256 by omega)] at hK;simp only[decide_eq_true (show (f.names.length:Int)≠256 by omega),rs,i_t];exact hK _ _ M _ 1 ho rfl M.le_refl (by simp)
 have no:∀W,OwnS M.A w W [ftE b f wv nv mv,.mem M]→(Fo.named f.name 1&&decide (0≤f.first)&&decide (f.widths.length≤4096)&&decide (f.first+f.widths.length≤Fo.room f.wide)&&Fo.wid f.missing)=false→K (.returned (.bool false)) W:=by
  intro W ho h0;rw[h0,Bool.false_and] at hK;exact hK _ _ M _ 1 ho rfl M.le_refl rfl
 have hr:Fo.room f.wide=65536∨Fo.room f.wide=256:=by cases f.wide<;>simp[Fo.room]
 refine quietC (fun W=>OwnS M.A w W [ftE b f wv nv mv,.mem M]) ho.drew ?_;refine q_do _ (fun _=>r_faf 0 0 (fo_f 0)) ?_;refine q_at (.string ⟨f.name.toArray⟩) (fun W h=>run_load_cell nStr5 (h.cell 0 rfl 0 rfl)) ?_;refine q_call (.bool (Fo.named f.name 1)) (fun W hW=>ret_sameC (named47_ret f.name 1 W (by decide)) hW) ?_;refine q_do (.bool (!Fo.named f.name 1)) (fun _=>r_not) ?_;cases hA:Fo.named f.name 1 with
|false=>
  simp only[Bool.not_false,gq_tf]
  repeat (first|refine q_pt ?_|simp only[gq_tf])
  intro W ho;simp only[i_t];exact no W ho (by rw[hA];rfl)
|true=>
 rw[hA] at no rest;simp only[Bool.not_true,gq_ff];refine q_do _ (fun _=>r_faf 2 2 (fo_f 2)) ?_;refine q_at (.int .i64 f.first) (fun W h=>run_load_cell nInt5 (h.cell 0 rfl 2 rfl)) ?_;refine q_lss ?_;refine q_pf ?_;by_cases a1:f.first < 0
 ·simp only[decide_eq_true a1,gq_tf]
  repeat (first|refine q_pt ?_|simp only[gq_tf])
  intro W ho;simp only[i_t];exact no W ho (by rw[decide_eq_false (show ¬0≤f.first by omega)];rfl)
 rw[decide_eq_true (show 0≤f.first by omega)] at no rest;simp only[decide_eq_false a1,gq_ff];refine q_gtr ?_;refine q_pf ?_;by_cases a2:(4096:Int) < (f.widths.length:Int)
 ·simp only[decide_eq_true a2,gq_tf]
  repeat (first|refine q_pt ?_|simp only[gq_tf])
  intro W ho;simp only[i_t];exact no W ho (by rw[decide_eq_false (show ¬f.widths.length≤4096 by omega)];rfl)
 rw[decide_eq_true (show f.widths.length≤4096 by omega)] at no rest;simp only[decide_eq_false a2,gq_ff];refine q_do _ (fun _=>r_faf 2 2 (fo_f 2)) ?_;refine q_at (.int .i64 f.first) (fun W h=>run_load_cell nInt5 (h.cell 0 rfl 2 rfl)) ?_;refine q_do _ (fun _=>r_faf 1 1 (fo_f 1)) ?_;refine q_at (.bool f.wide) (fun W h=>run_load_cell nBool47 (h.cell 0 rfl 1 rfl)) ?_;refine q_call (.int .i64 (Fo.room f.wide)) (fun W hW=>ret_sameC (codes1_ret f.wide W) hW) ?_;refine q_do (.int .i64 (Fo.room f.wide - (f.widths.length:Int))) (fun _=>by rw[r_sub,wrap64_id (by omega) (by omega)]) ?_;refine q_gtr ?_;refine q_pf ?_;by_cases a3:Fo.room f.wide - (f.widths.length:Int) < f.first
 ·simp only[decide_eq_true a3,gq_tf]
  repeat (first|refine q_pt ?_|simp only[gq_tf])
  intro W ho;simp only[i_t];exact no W ho (by rw[decide_eq_false (show ¬f.first+(f.widths.length:Int)≤Fo.room f.wide by omega)];rfl)
 rw[decide_eq_true (show f.first+(f.widths.length:Int)≤Fo.room f.wide by omega)] at no rest;simp only[decide_eq_false a3,gq_ff];refine q_do _ (fun _=>r_faf 4 4 (fo_f 4)) ?_;refine q_at (.int .i64 f.missing) (fun W h=>run_load_cell nI65 (h.cell 0 rfl 4 rfl)) ?_;refine q_call (.bool (Fo.wid f.missing)) (fun W hW=>ret_sameC (bounded47_ret f.missing W) hW) ?_;refine q_do (.bool (!Fo.wid f.missing)) (fun _=>r_not) ?_;refine q_pf ?_;intro W ho;cases hW:Fo.wid f.missing with
|false=>
  simp only[Bool.not_false,i_t];exact no W ho (by rw[hW];rfl)
|true=>
  simp only[Bool.not_true,i_f];exact rest W ho (by rw[hW];rfl)
theorem fcheck47_ret (f:Ft)(wv nv mv:Value)(M:Mem)(w:World)(hut:UtM M)(hok:FtOk f)(hM:M.has w)(h:FtAt M f wv nv mv):RetM prog 16 #[ftV f wv nv mv] M w (fun r _=>r=.int .i64 (Fo.check f)):=by
 refine retM_of hM fun K hK=>S_font_Check_ok ?_;unfold Fo.check at hK;unfold S_font_Check;refine o_ftb f h (OwnS.memS hM) fun b w1 ho=>?_;rw[l_at (ho.agg 0 rfl aggFt)];refine c_mem ho 1 rfl (may47_ret f wv nv mv M w1 hok (ho.hasM 1 rfl) h) ?_;rintro _ N w2 hle rfl ho;cases hm:Fo.may f with
|false=>
  rw[hm] at hK;simp only[rs,Bool.not_false,i_t];exact hK _ _ N _ 1 ho rfl hle rfl
|true=>
  rw[hm] at hK;simp only[rs,Bool.not_true,i_f];rw[fa_f6,ft_mps ho 0 rfl,fa_f1,ft_wide ho 0 rfl];have h':=h.le hle;refine c_mem ho 1 rfl (ccheck46_ret f.maps f.wide mv N w2 (hut.le hle) (by have:=hok.ml;omega) hok.ms (ho.hasM 1 rfl) h'.ms) ?_;rintro _ N2 w3 l2 rfl ho;exact hK _ _ N2 _ 1 ho rfl (hle.trans l2) rfl
end
end Go.Proofs.YtmkodaephgnehaaGreatDoor

namespace Go.Proofs.YtmkodaephgnehaaGreatDoor
section
open Eng Go.RowKit
theorem fwidth47_ret (f:Ft)(c:Int)(wv nv mv:Value)(M:Mem)(w:World)(hok:FtOk f)(hc:-9223372036854775808≤c∧c≤9223372036854775807)(hM:M.has w)(h:FtAt M f wv nv mv) :
  RetM prog 10 #[ftV f wv nv mv,.int .i64 c] M w (fun r _=>r=.int .i64 (Fo.width f c)):=by
 have hwl:=hok.wl;have hfi:=hok.first
 refine retM_of hM fun K hK=>S_font_Width_ok ?_;unfold Fo.width at hK;unfold S_font_Width;refine o_ftb f h (OwnS.memS hM) fun b w1 ho=>?_;have out:(c < f.first∨(f.widths.length:Int)≤c - f.first)→DoX prog (mFA 26 (.pointer (some ⟨b,0,none⟩)) 4) w1 (pk K) (fun t26 w=>DoX prog (mLoad 2 t26) w (pk K) fun t27 w=>K (.returned t27) w):=by
  intro hx;rw[if_pos hx] at hK;rw[fa_f4,ft_miss ho 0 rfl];exact hK _ _ M _ 1 ho rfl M.le_refl rfl
 rw[fa_f2,ft_first ho 0 rfl]
 try simp only[rs]
 by_cases a1:c < f.first
 ·simp only[decide_eq_true a1,rs,g_un,i_t];exact out (.inl a1)
 simp only[decide_eq_false a1,rs];rw[fa_f2,ft_first ho 0 rfl]
 try simp only[rs]
 rw[fa_f3,ft_ws ho 0 rfl]
 try simp only[rs]
 rw[sl_len Tryz.underlying22 (h.ws.now (ho.hasM 1 rfl))]
 try simp only[rs]
 by_cases a2:c - f.first≤9223372036854775807
 ·rw[wrap64_id (n:=c - f.first) (by omega) a2];by_cases a3:(f.widths.length:Int)≤c - f.first
  ·simp only[decide_eq_true a3,rs,g_un,i_t];exact out (.inr a3)
  simp only[decide_eq_false a3,rs];rw[fa_f2,ft_first ho 0 rfl]
  try simp only[rs]
  rw[wrap64_id (n:=c - f.first) (by omega) a2];simp only[decide_eq_false (show ¬c - f.first < 0 by omega),i_f];rw[if_neg (by omega)] at hK;rw[fa_f3,ft_ws ho 0 rfl,fa_f2,ft_first ho 0 rfl]
  try simp only[rs]
  rw[wrap64_id (n:=c - f.first) (by omega) a2];obtain⟨g,off,cap,hwv,hcc⟩:=sl_open (h.ws.now (ho.hasM 1 rfl)) (by omega);subst hwv;refine do_eq (run_ia Tryz.underlying22 (show _=some 1 by kernel_rfl) (by omega) (by omega)) |>.mpr ?_;have hi':(c - f.first).toNat < f.widths.length:=by omega
  rw[Nat.mul_one,l_cell nI65 (hcc _ _ (intsW_get hi'))];refine hK _ _ M _ 1 ho rfl M.le_refl ?_;rw[List.getD_eq_getElem?_getD,List.getElem?_eq_getElem hi'];rfl
 ·-- the difference is too large: the program sees a negative one
  have ew:IntKind.wrap .i64 (c - f.first)=c - f.first - 18446744073709551616:=by
   unfold IntKind.wrap;simp only[IntKind.bits,IntKind.signed];have e:(2:Int) ^ 64=18446744073709551616:=by decide
   simp only[e];have e2:(c - f.first) % 18446744073709551616=c - f.first:=Int.emod_eq_of_lt (by omega) (by omega)
   rw[e2];have e3:(2:Int) ^ (64 - 1)=9223372036854775808:=by decide
   simp only[e3];rw[if_pos (by simp;omega)]
  rw[ew];simp only[decide_eq_false (show ¬(f.widths.length:Int)≤c - f.first - 18446744073709551616 by omega),rs];rw[fa_f2,ft_first ho 0 rfl]
  try simp only[rs]
  rw[ew];simp only[decide_eq_true (show c - f.first - 18446744073709551616 < 0 by omega),i_t];exact out (.inr (by omega))
namespace Fo
theorem pairs_len:∀s:List UInt8,(pairs s).length=s.length / 2
|[]=>rfl
|[_]=>by simp[pairs]
|a::b::t=>by rw[pairs,List.length_cons,pairs_len t];simp only[List.length_cons];omega
theorem pairs_take (s:List UInt8):∀(k:Nat) (h:2*k+1 < s.length),pairs (s.take (2*(k+1)))=pairs (s.take (2*k))++[256*((s[2*k]'(by omega)).toNat:Int)+(s[2*k+1].toNat:Int)]:=by
 intro k
 induction k generalizing s with
|zero=>
  intro h
  match s,h with
 |a::b::t,_=>simp[pairs]
|succ k ih=>
  intro h
  match s,h with
 |a::b::t,h=>
   have h':2*k+1 < t.length:=by simp only[List.length_cons] at h;omega
   have e1:pairs (a::b::t.take (2*(k+1)))=(256*(a.toNat:Int)+b.toNat)::pairs (t.take (2*(k+1))):=rfl;have e2:pairs (a::b::t.take (2*k))=(256*(a.toNat:Int)+b.toNat)::pairs (t.take (2*k)):=rfl;show pairs (a::b::t.take (2*(k+1)))=pairs (a::b::t.take (2*k))++[256*((t[2*k]'(by omega)).toNat:Int)+(t[2*k+1]'(by omega)).toNat];rw[e1,e2,ih t h'];rfl
end Fo
theorem or8F {v c:Nat}(hv:v < 65536)(hc:c < 256):bOr .i64 ((v*2 ^ 8:Nat):Int) (c:Int)=((v*2 ^ 8+c:Nat):Int):=by
 have h:v*2 ^ 8 ||| c=v*2 ^ 8+c:=by rw[Nat.mul_comm];exact (Nat.two_pow_add_eq_or_of_lt (i:=8) hc v).symm
 unfold bOr;rw[BitVec.toNat_or];simp only[BitVec.ofInt_natCast,BitVec.toNat_ofNat];rw[Nat.mod_eq_of_lt (show v*2 ^ 8 < 2 ^ IntKind.i64.bits by show _ < 18446744073709551616;omega),Nat.mod_eq_of_lt (show c < 2 ^ IntKind.i64.bits by show _ < 18446744073709551616;omega),h];exact wrap64_id (by omega) (by omega)
abbrev itE47 (v:Value)(l:List Int):Ent:=.urow 3 1 v l.length (intsW l)
theorem m_ap47 {S:Nat→Prop}{w w0:World}{PK PK2:PKT}{K:VWP}{L:List Ent}{u:Value}{l:List Int}{n:Int}{cb:Array Bool}(hb:l.length≤10000000000)(ho:OwnS S w0 w (itE47 u l::L))(k:∀v' w',OwnS S w0 w' (itE47 v' (l++[n])::L)→K v' w') :
  DoX prog (mBuildS 29 1 #[(0,.int .i64 n)]) w PK (fun t w=>DoX prog (mB .append #[29,29] 29 cb #[u,t]) w PK2 K):=by
 refine o_ints1 n ho fun b6 w3 ho=>?_;refine o_apInt 1 ho rfl (ho.sl 0 rfl 1 1 1 rfl) intsW_one (by omega) fun u' w4 ho=>?_;refine k u' w4 ?_;have e:itE47 u' (l++[n])=.urow 3 1 u' (l.length+1) (intsW l++intsW [n]):=by simp[itE47,intsW]
 rw[e];exact ho.tail
theorem fcodes47_ret (f:Ft)(s:List UInt8)(wv nv mv:Value)(M:Mem)(w:World)(hs:s.length≤1000000000)(hM:M.has w)(h:FtAt M f wv nv mv) :
  RetM prog 7 #[ftV f wv nv mv,.string ⟨s.toArray⟩] M w (fun r N=>∃lv,r=.tuple #[lv,.int .i64 (Fo.codes f s).2]∧SlA N.A N.w lv 1 (Fo.codes f s).1.length (intsW (Fo.codes f s).1)):=by
 refine retM_of hM fun K hK=>S_font_Codes_ok ?_;generalize hX:Fo.codes f s=X at hK;unfold Fo.codes at hX;unfold S_font_Codes;refine o_ftb f h (OwnS.memS hM) fun b w1 ho=>?_;rw[fa_f1,ft_wide ho 0 rfl];have fin:∀{W:World} {u:Value} {l:List Int},OwnS M.A w W [itE47 u l,ftE b f wv nv mv,.mem M]→X=(l,0)→K (.returned (.tuple #[u,(.int .i64 0)])) W:=by
  intro W u l ho hx;obtain⟨N,l2,hs2,ho⟩:=OwnS.freezeU ho 1 rfl;exact hK _ _ N _ 1 ho rfl l2 ⟨u,by rw[hx],by rw[hx];exact hs2⟩
 cases hw:f.wide with
|false=>
  rw[if_pos hw] at hX;simp only[rs,Bool.not_false,i_t];rw[s_len Tryz.underlying9];refine loop (fun vs W=>∃(i:Nat) (u:Value),vs=[u,.int .i64 (i:Int)]∧i≤s.length∧OwnS M.A w W [itE47 u ((s.take i).map fun c=>(c.toNat:Int)),ftE b f wv nv mv,.mem M]) (fun vs _=>s.length - n1 vs) ⟨0,_,rfl,by omega,OwnS.nilU ho _ _⟩ ?_;clear ho;rintro vs w2 ⟨i,u,rfl,hi,ho⟩ _;simp only[S_font_Codes_0,gd,rs];by_cases hlt:(i:Int) < (s.length:Int)
  case neg=>
   simp only[decide_eq_false hlt,i_f];rw[List.take_of_length_le (by omega)] at ho;exact fin ho hX.symm
  simp only[decide_eq_true hlt,i_t];have hi':i < s.length:=by omega
  have hcl:=s[i].toNat_lt;rw[s_ix (c:=s[i]) Tryz.underlying9 (by omega) (by rw[Int.toNat_natCast];exact List.getElem?_eq_getElem hi'),c_64 (by omega) (by omega)];refine m_ap47 (by rw[List.length_map,List.length_take];omega) ho fun u' w3 ho=>?_
  try simp only[rs]
  rw[wrap64_id (by omega) (by omega)];refine nextX ⟨i+1,u',rfl,by omega,?_⟩ (by simp[n1,RowKit.intOf];omega);rw[List.take_succ_eq_append_getElem hi',List.map_append];exact ho
|true=>
  rw[if_neg (by rw[hw];decide)] at hX;simp only[rs,Bool.not_true,i_f];rw[s_len Tryz.underlying9,b_rem (by decide),show ((s.length:Int).tmod 2)=((s.length % 2:Nat):Int) by rw[Int.tmod_eq_emod_of_nonneg (by omega)];omega]
  try simp only[rs]
  by_cases h2:s.length % 2=0
  case neg=>
   rw[if_pos h2] at hX;simp only[decide_eq_true (show ((s.length % 2:Nat):Int)≠0 by omega),i_t];exact hK _ _ M _ 1 ho rfl M.le_refl ⟨_,by rw[←hX],by rw[←hX];exact SlA.nil _ _ _ _⟩
  rw[if_neg (by omega)] at hX;simp only[decide_eq_false (show ¬((s.length % 2:Nat):Int)≠0 by omega),i_f];refine loop (fun vs W=>∃(i:Nat) (u:Value),vs=[u,.int .i64 ((2*i:Nat):Int)]∧2*i≤s.length∧OwnS M.A w W [itE47 u (Fo.pairs (s.take (2*i))),ftE b f wv nv mv,.mem M]) (fun vs _=>s.length - n1 vs) ⟨0,_,rfl,by omega,OwnS.nilU ho _ _⟩ ?_;clear ho;rintro vs w2 ⟨i,u,rfl,hi,ho⟩ _;simp only[S_font_Codes_1,gd];rw[s_len Tryz.underlying9]
  try simp only[rs]
  by_cases hlt:((2*i:Nat):Int) < (s.length:Int)
  case neg=>
   simp only[decide_eq_false hlt,i_f];rw[List.take_of_length_le (by omega)] at ho;exact fin ho hX.symm
  simp only[decide_eq_true hlt,i_t];have h1':2*i+1 < s.length:=by omega
  have hi':2*i < s.length:=by omega
  have c1:=s[2*i].toNat_lt;have c2:=s[2*i+1].toNat_lt;refine quiet (q_do _ (fun w=>run_s_ix (i:=((2*i:Nat):Int)) (c:=s[2*i]) Tryz.underlying9 (by omega) (by rw[Int.toNat_natCast];exact List.getElem?_eq_getElem hi')) ?_);refine q_do _ (fun w=>run_64F w (by omega) (by omega)) ?_;refine q_do (.int .i64 ((s[2*i].toNat*2 ^ 8:Nat):Int)) (fun w=>by rw[r_shl (by decide),show (2:Int) ^ min (8:Int).toNat IntKind.i64.bits=2 ^ 8 from rfl,wrap64_id (by omega) (by omega)];congr 4<;>omega) ?_;refine q_do (.int .i64 ((2*i+1:Nat):Int)) (fun w=>by rw[r_add];congr 4;rw[wrap64_id (by omega) (by omega)];omega) ?_;refine q_do _ (fun w=>run_s_ix (i:=((2*i+1:Nat):Int)) (c:=s[2*i+1]) Tryz.underlying9 (by omega) (by rw[Int.toNat_natCast];exact List.getElem?_eq_getElem h1')) ?_;refine q_do _ (fun w=>run_64F w (by omega) (by omega)) ?_;refine q_do (.int .i64 ((s[2*i].toNat*2 ^ 8+s[2*i+1].toNat:Nat):Int)) (fun w=>by rw[r_or,or8F (by omega) (by omega)]) ?_;intro w3 hb;have ho:=ho.grow hb;refine m_ap47 (by rw[Fo.pairs_len,List.length_take];omega) ho fun u' w4 ho=>?_
  try simp only[rs]
  rw[wrap64_id (by omega) (by omega)];refine nextX ⟨i+1,u',by rw[show ((2*(i+1):Nat):Int)=((2*i:Nat):Int)+2 by omega],by omega,?_⟩ (by simp[n1,RowKit.intOf];omega);rw[Fo.pairs_take s i h1',show 256*(s[2*i].toNat:Int)+(s[2*i+1].toNat:Int)=((s[2*i].toNat*2 ^ 8+s[2*i+1].toNat:Nat):Int) by omega];exact ho
theorem fsay47_ret (f:Ft)(c:Int)(wv nv mv:Value)(M:Mem)(w:World)(hsp:SpM M)(hok:FtOk f)(hM:M.has w)(h:FtAt M f wv nv mv) :
  RetM prog 12 #[ftV f wv nv mv,.int .i64 c] M w (fun r _=>r=.string ⟨(Fo.say f c).toArray⟩):=by
 refine retM_of hM fun K hK=>S_font_Say_ok ?_;generalize hX:Fo.say f c=X at hK;unfold Fo.say at hX;unfold S_font_Say;refine o_ftb f h (OwnS.memS hM) fun b w1 ho=>?_;rw[fa_f6,ft_mps ho 0 rfl];refine c_mem ho 1 rfl (cfind46_ret f.maps c mv M w1 (by have:=hok.ml;omega) (ho.hasM 1 rfl) h.ms) ?_;rintro _ N w2 hle rfl ho;simp only[ex];cases hf:Cm.find f.maps c with
|some x=>
  rw[hf] at hX;simp only[Option.isSome_some,i_t];exact hK _ _ N _ 1 ho rfl hle (by rw[←hX];rfl)
|none=>
  rw[hf] at hX;dsimp only at hX;simp only[Option.isSome_none,i_f];rw[fa_f5,ft_nms ho 0 rfl];have h':=h.le hle;have go:∀{W:World} {N2:Mem} {v:Value} {J:List Value→World→Prop},(∀vs W,(∀_:Sg,S_font_Say_0 (.int .i64 c) (.pointer (some ⟨b,0,none⟩)) (vs.getD 0 undef) W K)→J vs W)→OwnS M.A w W [ftE b f wv nv mv,.mem N2]→N.le N2→SlA N2.A N2.w v 1 (Fo.names f).length (strsV (Fo.names f))→J [v] W:=by
   intro W N2 v J hJ ho l2 hv;refine hJ _ _ fun _=>?_;simp only[S_font_Say_0,gd];rw[fa_f1,ft_wide ho 0 rfl];have no:(f.wide=true∨c < 0∨((Fo.names f).length:Int)≤c)→K (.returned (.string ⟨#[]⟩)) W:=fun hx=>by
    rw[if_pos hx] at hX;exact hK _ _ N2 _ 1 ho rfl (hle.trans l2) (by rw[←hX])
   cases hw:f.wide with
  |true=>
    simp only[rs,g_un,i_t];exact no (.inl hw)
  |false=>
   try simp only[rs]
   by_cases a1:c < 0
   ·simp only[decide_eq_true a1,rs,g_un,i_t];exact no (.inr (.inl a1))
   simp only[decide_eq_false a1,rs];rw[sl_len Tryz.underlying23 (hv.now (ho.hasM 1 rfl))]
   try simp only[rs]
   by_cases a2:((Fo.names f).length:Int)≤c
   ·simp only[decide_eq_true a2,rs,i_t];exact no (.inr (.inr a2))
   simp only[decide_eq_false a2,rs,i_f];rw[if_neg (by rw[hw];simp;omega)] at hX;obtain⟨g,off,cap,rfl,hcc⟩:=sl_open (hv.now (ho.hasM 1 rfl)) (by omega);refine do_eq (run_ia Tryz.underlying23 (show _=some 1 by kernel_rfl) (by omega) (by omega)) |>.mpr ?_;have hi':c.toNat < (Fo.names f).length:=by omega
   rw[Nat.mul_one,l_cell nStr5 (hcc _ _ (strsV_get hi'))];refine c_mem ho 1 rfl (sign47_ret _ N2 W ((hsp.le hle).le l2) (ho.hasM 1 rfl)) ?_;rintro _ N3 w3 l3 rfl ho;refine hK _ _ N3 _ 1 ho rfl ((hle.trans l2).trans l3) ?_;rw[←hX,List.getD_eq_getElem?_getD,List.getElem?_eq_getElem hi'];rfl
  refine join fun J hJ=>?_;rw[sl_len Tryz.underlying23 (h'.ns.now (ho.hasM 1 rfl))]
  try simp only[rs]
  by_cases h0:(f.names.length:Int)=0
  ·have hn:f.names=[]:=List.eq_nil_of_length_eq_zero (by omega);simp only[decide_eq_true h0,i_t];refine c_mem ho 1 rfl (usual47_ret N w2 (hsp.le hle) (ho.hasM 1 rfl)) fun v N2 w3 l2 hv ho=>?_;have e:Fo.names f=Fo.usual:=by unfold Fo.names;rw[if_pos hn]
   exact go hJ ho l2 (by rw[e,Fo.usual_len];exact hv)
  ·have hn:f.names≠[]:=fun h=>h0 (by rw[h];rfl);simp only[decide_eq_false h0,i_f];have e:Fo.names f=f.names:=by unfold Fo.names;rw[if_neg hn]
   exact go hJ ho N.le_refl (by rw[e];exact h'.ns)
end
namespace Eng
theorem callsD_recoverA {P:Program}{f:FuncId}{fn:Func}{id:Nat}{o o2:Oper}{rest:Code}{args:List Value}{u:FrameMode}{w:World}{R:Ending→FrameMode→World→Prop}{n d d2:Nat}{aj al:List (Nat×List Nat)}{rs:List ResultVar}
  (hf:P.funcs[f]?=some fn) (hb:fn.body=some (.seq (.region id #[o,o2] false) rest)) (ho:o.op=.call { callee:=.builtin .recover,args:=#[],argTypes:=#[] }) (hg:o.guard=none) (hd:o.dst=some d) (hdn:Nat.blt d n=true)
  (ho2:o2.op=.assign (.tmp d)) (hg2:o2.guard=none) (hd2:o2.dst=some d2) (hdn2:Nat.blt d2 n=true)
  (hn:fn.ntmps=n) (hrs:fn.results.toList=rs) (hl:Nat.ble args.length n=true)
  (h:wpX P n aj al none rest (topD P rs (fun e w'=>R e (recM u) w')) (upd (upd (startX args) d (recV u)) d2 (recV u)) [] w) (hF:hasRF rest=false:=by kernel_rfl):CallsD P f args.toArray u w R:=by
 refine callsD_of_wpS hf hb fun c₀ cs hu=>?_;rw[hn];refine wpS_seq (wpS_region ?_);have hex:∀ρ:Operand→Value,(execOp ρ o).run P w=.ok .recover w:=by
  intro ρ;unfold execOp;rw[ho];simp[resolve,invoke,builtin,bind,pure,Sem.bind,Sem.run]
 have hrep:=start_rep (args:=args) hl;have hput:Rep n (upd (startX args) d (recV u)) (({ tmps:=args.toArray++Array.replicate (n - args.toArray.size) undef,defers:=[] }:Act).put o.dst (recV u)).tmps:=by
  rw[hd];exact Rep.put (a:={ tmps:=args.toArray++Array.replicate (n - args.toArray.size) undef,defers:=[] }) hrep (d:=some d) hdn (recV u)
 have hdef:(({ tmps:=args.toArray++Array.replicate (n - args.toArray.size) undef,defers:=[] }:Act).put o.dst (recV u)).defers=[]:=by rw[hd];rfl
 obtain⟨A1,hA1⟩:∃A,A=({ tmps:=args.toArray++Array.replicate (n - args.toArray.size) undef,defers:=[] }:Act).put o.dst (recV u):=⟨_,rfl⟩;rw[←hA1] at hput hdef;have hex2:(execOp A1.eval o2).run P w=.ok (.value (recV u)) w:=by
  rw[Rep.eval hput];unfold execOp;rw[ho2];simp[rd,upd,pure,Sem.run]
 have key:wpOpsS P #[o,o2] (Exit.thenS (rest.wpS P (bodyPostS P fn c₀ cs R)) (bodyPostS P fn c₀ cs R)) [1] A1 ({ c₀ with mode:=recM u }::cs) w:=by
  unfold wpOpsS;simp only[List.getElem?_toArray,List.getElem?_cons_succ,List.getElem?_cons_zero];rw[if_pos (by simp[Region.wanted,hg2]),hex2];simp only[Oper.upon];have hput2:Rep n (upd (upd (startX args) d (recV u)) d2 (recV u)) (A1.put o2.dst (recV u)).tmps:=by
   rw[hd2];exact Rep.put hput (d:=some d2) hdn2 (recV u)
  have hdef2:(A1.put o2.dst (recV u)).defers=[]:=by rw[hd2];exact hdef
  refine wpS_of_wp (Code.wp_mono ?_ (wpIn_wide.1 (wpX_sound rest none _ _ _ w hput2 (by rw[hdef2];exact h) hF)));rintro e a w' ⟨σ,hr,hk⟩;have hdd:∀K:Ending→World→Prop,RetD P (rvOf σ rs) w' K→∃v,(results fn a.tmps).run P w'=.ok v w'∧K (.returned v) w':=fun K hk=>by
   rw[results_eq hr,hrs];exact retX_iff hk
  generalize hds:a.defers=ds at hk;cases e<;>cases ds<;>first|(exact hk.elim;done)|skip
  ·obtain⟨v,h1,h2⟩:=hdd (fun e w'=>R e (recM u) w') hk;exact⟨hds,recM u,rfl,v,h1,h2⟩
  ·obtain⟨v,h1,h2⟩:=hdd (fun e w'=>R e (recM u) w') hk;exact⟨hds,recM u,rfl,v,h1,h2⟩
  ·exact⟨hds,recM u,rfl,hk⟩
 have e:=rec_eq c₀ cs;rw[hu] at e;show wpOpsS P #[o,o2] _ [0,1] _ (c₀::cs) w;unfold wpOpsS;simp only[List.getElem?_toArray,List.getElem?_cons_zero];rw[if_pos (by simp[Region.wanted,hg])];rw[hex];cases hrc:recoverD (c₀::cs) with
|none=>
  rw[hrc] at e;simp only[Prod.mk.injEq] at e;simp only;rw[e.1,e.2,←hA1];exact key
|some x=>
  obtain⟨v,cs'⟩:=x;rw[hrc] at e;simp only[Prod.mk.injEq] at e;simp only;rw[e.1,e.2,←hA1];exact key
end Eng
section
open Eng
def S_font_Read_fn1_1 (w:World)(K:Ending→World→Prop):Prop:=
 K (.returned (.tuple #[])) w
def S_font_Read_fn1_0 (t0 t1 t3:Value)(w:World)(K:Ending→World→Prop):Prop:=
 DrawX w (fun w=>
 (DoX prog (mBuild 26 #[]) w (pk K) fun t16 w=>
 (DoX prog (mFA 73 t3 0) w (pk K) fun t17 w=>
 (DoX prog (mLoad 30 t17) w (pk K) fun t18 w=>
 DoX prog (mStore 26 t0 t16) w (pk K) fun _ w=>
 DoX prog (mStore 30 t1 t18) w (pk K) fun _ w=>
 S_font_Read_fn1_1 w K)∧(DoX prog (mStore 26 t0 t16) w (pk K) fun _ w=>
 DoX prog (mLoad 30 t17) w (pk K) fun t18_1 w=>
 DoX prog (mStore 30 t1 t18_1) w (pk K) fun _ w=>
 S_font_Read_fn1_1 w K))∧(DoX prog (mStore 26 t0 t16) w (pk K) fun _ w=>
 DoX prog (mFA 73 t3 0) w (pk K) fun t17_1 w=>
 DoX prog (mLoad 30 t17_1) w (pk K) fun t18_2 w=>
 DoX prog (mStore 30 t1 t18_2) w (pk K) fun _ w=>
 S_font_Read_fn1_1 w K))∧(DoX prog (mFA 73 t3 0) w (pk K) fun t17_2 w=>
 (DoX prog (mBuild 26 #[]) w (pk K) fun t16_1 w=>
 (DoX prog (mLoad 30 t17_2) w (pk K) fun t18_3 w=>
 DoX prog (mStore 26 t0 t16_1) w (pk K) fun _ w=>
 DoX prog (mStore 30 t1 t18_3) w (pk K) fun _ w=>
 S_font_Read_fn1_1 w K)∧(DoX prog (mStore 26 t0 t16_1) w (pk K) fun _ w=>
 DoX prog (mLoad 30 t17_2) w (pk K) fun t18_4 w=>
 DoX prog (mStore 30 t1 t18_4) w (pk K) fun _ w=>
 S_font_Read_fn1_1 w K))∧(DoX prog (mLoad 30 t17_2) w (pk K) fun t18_5 w=>
 DoX prog (mBuild 26 #[]) w (pk K) fun t16_2 w=>
 DoX prog (mStore 26 t0 t16_2) w (pk K) fun _ w=>
 DoX prog (mStore 30 t1 t18_5) w (pk K) fun _ w=>
 S_font_Read_fn1_1 w K)))
def S_font_Read_fn1 (t0 t1 r:Value)(w:World)(K:Ending→World→Prop):Prop:=
 DoX prog (mEq .neq 20 (.tmp 6) (.const .nilIface) r .nilIface) w (pk K) fun t7 w=>
 IfX t7 (DoX prog (mTA r 20 73 true) w (pk K) fun t10 w=>
 DoX prog (mExt t10 0) w (pk K) fun t11 w=>
 DoX prog (mExt t10 1) w (pk K) fun t12 w=>
 DoX prog (mAlloc 73) w (pk K) fun t3 w=>
 DoX prog (mStore 73 t3 t11) w (pk K) fun _ w=>
 JoinX (fun J1=>
 DoX prog (mUn .not t12) w (pk K) fun t14 w=>
 IfX t14 (DoX prog (mPanic r) w (pk K) fun _ w=>
 J1 [] w) (J1 [] w)) (fun vs1 w=>∀_:Sg,S_font_Read_fn1_0 t0 t1 t3 w K)) (K (.returned (.tuple #[])) w)
theorem S_font_Read_fn1_eq (t0 t1 r:Value)(w:World)(K:Ending→World→Prop):wpX prog 19 [(5,[])] [] none (sndOf (bodyOf Tryz.f48)) (topD prog [] K) (upd (upd (startX [t0,t1]) 5 r) 2 r) [] w=S_font_Read_fn1 t0 t1 r w K:=by kernel_rfl
theorem S_font_Read_fn1_dok {t0 t1:Value}{u:FrameMode}{w:World}{R:Ending→FrameMode→World→Prop}(h:S_font_Read_fn1 t0 t1 (recV u) w (fun e w=>R e (recM u) w)):CallsD prog 48 #[t0,t1] u w R:=
 callsD_recoverA Tryz.func48 rfl rfl rfl rfl rfl rfl rfl rfl rfl rfl rfl rfl (Eq.mpr (S_font_Read_fn1_eq t0 t1 (recV u) w _) h)
def S_font_Make_fn1_0 (t0 t1 t2 t4:Value)(w:World)(K:Ending→World→Prop):Prop:=
 HeldX w (fun S2 w=>
 HDo prog (fun _=>True) (mBuild 50 #[]) fun t17=>
 HDo prog (fun _=>True) (mBuild 48 #[]) fun t18=>
 HDo prog (fun _=>True) (mFA 73 t4 0) fun t19=>
 HDo prog S2 (mLoad 30 t19) fun t20=>
 DoX prog (mStore 50 t0 t17) w (pm1 (pm1 (pm1 (pm1 (pk K))))) fun _ w=>
 S2 w∧(DoX prog (mStore 48 t1 t18) w (pm1 (pm1 (pm1 (pm1 (pk K))))) fun _ w=>
 S2 w∧(DoX prog (mStore 30 t2 t20) w (pm1 (pm1 (pm1 (pm1 (pk K))))) fun _ w=>
 (K (.returned (.tuple #[])) w))))
def S_font_Make_fn1 (t0 t1 t2 r:Value)(w:World)(K:Ending→World→Prop):Prop:=
 DoX prog (mEq .neq 20 (.tmp 7) (.const .nilIface) r .nilIface) w (pk K) fun t8 w=>
 IfX t8 (DoX prog (mTA r 20 73 true) w (pk K) fun t11 w=>
 DoX prog (mExt t11 0) w (pk K) fun t12 w=>
 DoX prog (mExt t11 1) w (pk K) fun t13 w=>
 DoX prog (mAlloc 73) w (pk K) fun t4 w=>
 DoX prog (mStore 73 t4 t12) w (pk K) fun _ w=>
 JoinX (fun J1=>
 DoX prog (mUn .not t13) w (pk K) fun t15 w=>
 IfX t15 (DoX prog (mPanic r) w (pk K) fun _ w=>
 J1 [] w) (J1 [] w)) (fun vs1 w=>∀_:Sg,S_font_Make_fn1_0 t0 t1 t2 t4 w K)) (K (.returned (.tuple #[])) w)
theorem S_font_Make_fn1_eq (t0 t1 t2 r:Value)(w:World)(K:Ending→World→Prop):wpX prog 21 [(5,[])] [] none (sndOf (bodyOf Tryz.f38)) (topD prog [] K) (upd (upd (startX [t0,t1,t2]) 6 r) 3 r) [] w=S_font_Make_fn1 t0 t1 t2 r w K:=by kernel_rfl
theorem S_font_Make_fn1_dok {t0 t1 t2:Value}{u:FrameMode}{w:World}{R:Ending→FrameMode→World→Prop}(h:S_font_Make_fn1 t0 t1 t2 (recV u) w (fun e w=>R e (recM u) w)):CallsD prog 38 #[t0,t1,t2] u w R:=
 callsD_recoverA Tryz.func38 rfl rfl rfl rfl rfl rfl rfl rfl rfl rfl rfl rfl (Eq.mpr (S_font_Make_fn1_eq t0 t1 t2 (recV u) w _) h)
end
section
open Eng
def S_value_Ref (t0 t1:Value)(w:World)(K:Ending→World→Prop):Prop:=
 DoX prog (mAlloc 48) w (pk K) fun t4 w=>
 DoX prog (mBuild 48 #[(0,(.int .i64 8)),(1,t0),(2,t1)]) w (pk K) fun t7 w=>
 DoX prog (mStore 48 t4 t7) w (pk K) fun _ w=>
 RetX prog [.cell t4 48] w K
theorem S_value_Ref_eq (t0 t1:Value)(w:World)(K:Ending→World→Prop):wpX prog 8 [] [] none (bodyOf Tryz.f77) (topQ prog [.cell 4 48] K) (startX [t0,t1]) [] w=S_value_Ref t0 t1 w K:=by kernel_rfl
theorem S_value_Ref_ok {t0 t1:Value}{w:World}{K:Ending→World→Prop}(h:S_value_Ref t0 t1 w K):Calls prog 77 #[t0,t1] w K:=
 calls_of_wpX Tryz.func77 rfl rfl rfl rfl (Eq.mpr (S_value_Ref_eq t0 t1 w K) h)
end
section
open Eng Go.RowKit
abbrev mkE47 (b:Nat)(d:Dc)(vi tk tc:Value):Ent:=.cells b (dcC d vi tk tc) 77
theorem run_nil47 (a:Addr)(W:World):(mNil (.pointer (some a))).run prog W=.ok (.value (.pointer (some a))) W:=by simp[mNil,execOp]
theorem run_mkdoc {W:World}{b:Nat}{d:Dc}{vi vk vc:Value}(h:(mkE47 b d vi vk vc).is W):(mLoad 50 (.pointer (some ⟨b,0,none⟩))).run prog W=.ok (.value (dcV d vi vk vc)) W:=
 run_load_at (AtV.agg aggDc (cs:=dcC d vi vk vc) rfl fun j v hj=>by rw[Nat.zero_add];exact cells_cell (T:=77) h hj)
theorem run_ob47 {W:World}{b:Nat}{o:Ob}{vk vc:Value}(h:(obE b o vk vc).is W):(mLoad 48 (.pointer (some ⟨b,0,none⟩))).run prog W=.ok (.value (obV o vk vc)) W:=
 run_load_at (AtV.agg aggOb (cs:=obC o vk vc) rfl fun j v hj=>by rw[Nat.zero_add];exact cells_cell (T:=48) h hj)
theorem vref47_ret (n g:Int)(w:World):Ret prog 77 #[.int .i64 n,.int .i64 g] w (obR (ob1 8 n g []) nilS nilS w):=by
 refine ret_of fun K hK=>S_value_Ref_ok ?_;unfold S_value_Ref;refine o_oba (Own.start w) fun b w1 ho=>?_;have hb:∀{PK:PKT} {K:VWP},DoX prog (mBuild 48 #[(0,(.int .i64 8)),(1,.int .i64 n),(2,.int .i64 g)]) w1 PK K=K (obV (ob1 8 n g []) nilS nilS) w1:=do_eq (by kernel_rfl);rw[hb];refine ob_put 0 rfl rfl ho rfl fun w2 ho=>?_;exact ret_ob ho (hK _ _ ⟨rfl,ho.done⟩)
structure AddOk (d:Dc) (o:Ob):Prop where
 ok:Dk.Ok d
 len:d.items.length < 10000000000
 wt:o.wt≤1000000000
 chk:Dk.check d=0
 next:Dk.next d≤8191
 low:∀i∈d.items,-1000000≤i.num
 put:(Dk.put d ⟨Dk.next d,0,o⟩).2=0
def Dk.added (d:Dc)(o:Ob):Dc:=(Dk.put d ⟨Dk.next d,0,o⟩).1
section
variable {w:World}{PK:PKT}{K:VWP}{S:Nat→Prop}{w0:World}{L:List Ent}
theorem c_add47 {d:Dc}{o:Ob}{b:Nat}{vi tk tc vk vc:Value}{ics:List Value}{N:Mem}(ha:AddOk d o)(ho:OwnS S w0 w (mkE47 b d vi tk tc::.mem N::L))(hda:DocAt N.A N.w d vi tk tc ics)(hv:OV N.A N.w (obV o vk vc) o)
  (k:∀N2 vi' tk' tc' ics' W,N.le N2→DocAt N2.A N2.w (Dk.added d o) vi' tk' tc' ics'→OwnS S w0 W (mkE47 b (Dk.added d o) vi' tk' tc'::.mem N2::L)→K (obV (.mk 8 (Dk.next d) 0 [] [] []) nilS nilS) W) :
  CallX prog 43 #[.pointer (some ⟨b,0,none⟩),obV o vk vc,.int .i64 0] w PK K:=by
 refine⟨S_font_maker_add_ok ?_⟩;unfold S_font_maker_add;refine o_obb o hv.oneK hv.oneC ho fun b4 w1 ho=>?_;refine o_oba ho fun b6 w2 ho=>?_;refine c_need47 rfl ?_;have ho:OwnS S w0 w2 (obE b6 ob0 nilS nilS::obE b4 o vk vc::mkE47 b d vi tk tc::.mem N::L):=ho;have ho:=ho.drew;have call:∀{W:World} {L':List Ent} {PK':PKT} {K':VWP} (j:Nat),OwnS S w0 W L'→L'[j]?=some (.mem N)→(∀N2 vi' tk' tc' ics' W',N.le N2→DocAt N2.A N2.w (Dk.added d o) vi' tk' tc' ics'→OwnS S w0 W' (L'.set j (.mem N2))→K' (.tuple #[dcV (Dk.added d o) vi' tk' tc',.int .i64 (Dk.next d),.int .i64 0]) W') →
   CallX prog 76 #[dcV d vi tk tc,obV o vk vc] W PK' K':=by
  intro W L' PK' K' j ho hj k;refine c_mem ho j hj (dadd_ret d o _ _ N W ha.ok ha.len ha.wt ha.chk ha.next ha.low ha.put (ho.hasM j hj) ⟨vi,tk,tc,ics,rfl,hda⟩ hv) ?_;rintro _ N2 W' l2 ⟨y,rfl,yi,yk,yc,ycs,rfl,hya⟩ ho;exact k N2 yi yk yc ycs W' l2 hya ho
 have fin:∀{W:World} {N2:Mem} {b7:Nat} {vi' tk' tc':Value} {ics':List Value},N.le N2→DocAt N2.A N2.w (Dk.added d o) vi' tk' tc' ics'→OwnS S w0 W (dcE b7 (Dk.added d o) vi' tk' tc'::obE b6 ob0 nilS nilS::obE b4 o vk vc::mkE47 b d vi tk tc::.mem N2::L) →
   S_font_maker_add_0 (.pointer (some ⟨b,0,none⟩)) (.int .i64 0) (.pointer (some ⟨b6,0,none⟩)) (.pointer (some ⟨b7,0,none⟩)) (.int .i64 (Dk.next d)) W (Cont K PK):=by
  intro W N2 b7 vi' tk' tc' ics' l2 hda' ho;unfold S_font_maker_add_0;refine c_need47 rfl ?_;rw[dc_v ho 0 rfl,m_nil,f_addr (o:=0) (T:=77) (by kernel_rfl)];refine o_put 3 ho rfl (new:=dcC (Dk.added d o) vi' tk' tc') szDc (dcC_one _ hda'.items.one hda'.trailer.oneK hda'.trailer.oneC) rfl fun w5 ho=>?_;refine c_below ho (R:=fun v=>v=obV (ob1 8 (Dk.next d) 0 []) nilS nilS) (vref47_ret (Dk.next d) 0 w5) ?_;rintro _ w6 rfl ho;refine ob_put 1 rfl rfl ho rfl fun w7 ho=>?_;refine ret_v1 (rv_cell (ho.agg 1 rfl aggOb)) ?_;exact k N2 vi' tk' tc' ics' w7 l2 hda' ho.tail.tail.tail
 refine⟨fun W=>(mkE47 b d vi tk tc).is W∧(obE b4 o vk vc).is W,⟨ho.at_ 2 rfl,ho.at_ 1 rfl⟩,?_⟩;refine hd_pure _ (fun _=>run_nil47 _ _) (hd_pure _ (fun _=>run_fa (o:=0) (by kernel_rfl)) (hd_do _ (fun W h=>run_mkdoc h.1) (hd_do _ (fun W h=>run_ob47 h.2) ⟨?_,?_⟩)))
 ·refine call 3 ho rfl fun N2 vi' tk' tc' ics' W' l2 hda' ho=>hd_pure _ (fun _=>rfl) (hd_pure _ (fun _=>rfl) (hd_pure _ (fun _=>rfl) ?_));refine o_dca ho fun b7 w5 ho=>⟨⟨ho.at_ 3 rfl,ho.at_ 2 rfl⟩,?_⟩;refine dc_put 0 (d':=Dk.added d o) hda'.items.one hda'.trailer.oneK hda'.trailer.oneC ho rfl fun w6 ho=>?_;exact fin l2 hda' ho
 ·refine o_dca ho fun b7 w5 ho=>⟨⟨ho.at_ 3 rfl,ho.at_ 2 rfl⟩,?_⟩;refine call 4 ho rfl fun N2 vi' tk' tc' ics' W' l2 hda' ho=>hd_pure _ (fun _=>rfl) (hd_pure _ (fun _=>rfl) (hd_pure _ (fun _=>rfl) ?_));refine dc_put 0 (d':=Dk.added d o) hda'.items.one hda'.trailer.oneK hda'.trailer.oneC ho rfl fun w6 ho=>?_;exact fin l2 hda' ho
theorem ft_v (ho:OwnS S w0 w L)(i:Nat){b:Nat}{f:Ft}{wv nv mv:Value}(hi:L[i]?=some (ftE b f wv nv mv)):DoX prog (mLoad 26 (.pointer (some ⟨b,0,none⟩))) w PK K=K (ftV f wv nv mv) w:=l_at (ho.agg i hi aggFt)
theorem m_mk47 (d:Dc){A:Nat→Prop}{W0:World}{vi tk tc:Value}{ics:List Value}(hda:DocAt A W0 d vi tk tc ics):DoX prog (mBuild 77 #[(0,dcV d vi tk tc)]) w PK K=K (dcV d vi tk tc) w:=by
 obtain⟨a1,c1,rfl,_⟩:=hda.items.form;obtain⟨_,h2⟩:=hda.trailer.slices;obtain⟨a2,c2,rfl,_⟩:=h2.keys.form;obtain⟨a3,c3,rfl,_⟩:=h2.kids.form;exact do_eq (by kernel_rfl)
theorem o_mkb (d:Dc){A:Nat→Prop}{W0:World}{vi tk tc:Value}{ics:List Value}(hda:DocAt A W0 d vi tk tc ics)(ho:OwnS S w0 w L)(k:∀b w',OwnS S w0 w' (mkE47 b d vi tk tc::L)→K (.pointer (some ⟨b,0,none⟩)) w'):DoX prog (mBox 77 (dcV d vi tk tc)) w PK K:=by
 obtain⟨a1,c1,rfl,_⟩:=hda.items.form;obtain⟨_,h2⟩:=hda.trailer.slices;obtain⟨a2,c2,rfl,_⟩:=h2.keys.form;obtain⟨a3,c3,rfl,_⟩:=h2.kids.form;exact o_new (fun b=>.pointer (some ⟨b,0,none⟩)) (dcC d _ _ _) 77 (fun _=>by kernel_rfl) ho k
end
end
section
open Eng Go.RowKit
theorem fmake1_plain:plainB prog 38=true:=by kernel_rfl
theorem Fo.check_may {f:Ft}(h:Fo.check f=0):Fo.may f=true:=by
 unfold Fo.check at h;split at h
 ·cases h
 ·rename_i h1;simpa using h1
theorem fmake47_ret (d:Dc)(f:Ft)(dv wv nv mv:Value)(M:Mem)(w:World)(hut:UtM M)(hok:FtOk f)(hw:f.wide=false)(hn:f.names=[])(hm:f.maps=[])(hc:Fo.check f=0)(ha:AddOk d (Fo.mkD (Fo.narrowP f)))(hwt:Ob.wts (Fo.flatP (Fo.narrowP f))≤1000000000)
  (hM:M.has w) (hdv:DV M.A M.w dv d) (h:FtAt M f wv nv mv) :
  RetM prog 21 #[dv,ftV f wv nv mv] M w (fun r N=>∃dv',r=.tuple #[dv',obV (.mk 8 (Dk.next d) 0 [] [] []) nilS nilS,.int .i64 0]∧DV N.A N.w dv' (Dk.added d (Fo.mkD (Fo.narrowP f)))):=by
 have hg:=Fo.good_of (Fo.check_may hc);have hD:=Fo.mkD_dict (Fo.narrow_ok hg hw);have hdv0:=hdv;obtain⟨vi,tk,tc,cs,rfl,hda⟩:=hdv;refine retM_of hM fun K hK=>S_font_Make_ok ?_;unfold S_font_Make;refine o_dcb d hda.items.one hda.trailer.oneK hda.trailer.oneC (OwnS.memS hM) fun b2 w1 ho=>?_;refine o_ftb f h ho fun b3 w2 ho=>?_;refine o_dca ho fun b4 w3 ho=>?_;refine o_oba ho fun b5 w4 ho=>?_;refine o_new (fun b=>.pointer (some ⟨b,0,none⟩)) [.int .i64 0] 30 (fun _=>by kernel_rfl) ho fun b6 w5 ho=>?_;have ho:OwnS M.A w w5 [.cells b6 [.int .i64 0] 30,obE b5 ob0 nilS nilS,dcE b4 Dk.dc0 nilS nilS nilS,ftE b3 f wv nv mv,dcE b2 d vi tk tc,.mem M]:=ho;rw[dc_v ho 4 rfl];refine c_mem ho 5 rfl (dcheck_ret d _ M w5 ha.ok (ho.hasM 5 rfl) hdv0) ?_;rintro _ N w6 l1 rfl ho;simp only[ha.chk,n_err,show decide ((0:Int)≠0)=false from rfl,i_f];rw[ft_v ho 3 rfl];refine c_mem ho 5 rfl (fcheck47_ret f wv nv mv N w6 (hut.le l1) hok (ho.hasM 5 rfl) (h.le l1)) ?_;rintro _ N2 w7 l2 rfl ho;simp only[hc,n_err,show decide ((0:Int)≠0)=false from rfl,i_f];rw[m_func];refine⟨_,rfl,?_⟩;have hle:=l1.trans l2;rw[dc_v ho 4 rfl,m_mk47 d hda];refine o_mkb d hda ho fun b9 w8 ho=>?_;have ho:OwnS M.A w w8 [mkE47 b9 d vi tk tc,.cells b6 [.int .i64 0] 30,obE b5 ob0 nilS nilS,dcE b4 Dk.dc0 nilS nilS nilS,ftE b3 f wv nv mv,dcE b2 d vi tk tc,.mem N2]:=ho;refine join fun J hJ=>?_;rw[fa_f1,ft_wide ho 4 rfl,hw];simp only[i_f];rw[ft_v ho 4 rfl];refine c_mem ho 6 rfl (narrowly47_ret f wv nv mv N2 w8 hg hok hn (ho.hasM 6 rfl) (h.le hle)) ?_;rintro u N3 w9 l3 ⟨vs,hs,hvs⟩ ho;have hle:=hle.trans l3;refine AtX.mk rfl (hJ _ _ fun _=>?_);unfold S_font_Make_0;simp only[gd];refine join fun J2 hJ2=>?_;have hms:=(h.le hle).ms;rw[hm] at hms;rw[fa_f6,ft_mps ho 4 rfl,sl_len Tryz.underlying24 (hms.now (ho.hasM 6 rfl))]
 try simp only[rs]
 rw[decide_eq_false (show ¬(0:Int) < ((List.length ([]:List Cm.Mp):Nat):Int) by decide)]
 try simp only[i_f]
 refine AtX.mk rfl (hJ2 _ _ fun _=>?_);unfold S_font_Make_1;simp only[gd];refine c_mem ho 6 rfl (dict47_ret (Fo.narrowA f) u vs N3 w9 (by rw[Fo.narrow_ob hn];exact hwt) (ho.hasM 6 rfl) hs hvs) ?_;rintro _ N4 w10 l4 ⟨y,rfl,hy⟩ ho;rw[Fo.narrow_ob hn,hD] at hy ⊢;obtain⟨yk,yc,ycs,rfl,hya⟩:=hy.open;have hle:=hle.trans l4;simp only[errV,ex];have ho:OwnS M.A w w10 (mkE47 b9 d vi tk tc::([.cells b6 [.int .i64 0] 30,obE b5 ob0 nilS nilS,dcE b4 Dk.dc0 nilS nilS nilS,ftE b3 f wv nv mv,dcE b2 d vi tk tc]++[.mem N4])):=ho;have ho:=ho.perm (List.Perm.cons _ (List.perm_append_singleton _ _));refine c_add47 ha ho (hda.le hle) hya.ov fun N5 vi' tk' tc' ics' w11 l5 hda' ho=>?_;refine ob_put 3 rfl rfl ho rfl fun w12 ho=>?_;have ho:OwnS M.A w w12 [mkE47 b9 (Dk.added d (Fo.mkD (Fo.narrowP f))) vi' tk' tc',.mem N5,.cells b6 [.int .i64 0] 30,obE b5 (.mk 8 (Dk.next d) 0 [] [] []) nilS nilS,dcE b4 Dk.dc0 nilS nilS nilS,ftE b3 f wv nv mv,dcE b2 d vi tk tc]:=ho;have ho:=ho.drew;refine⟨fun W=>(mkE47 b9 (Dk.added d (Fo.mkD (Fo.narrowP f))) vi' tk' tc').is W∧(obE b5 (.mk 8 (Dk.next d) 0 [] [] []) nilS nilS).is W,⟨ho.at_ 0 rfl,ho.at_ 3 rfl⟩,?_⟩;refine hd_pure _ (fun _=>run_nil47 _ _) (hd_pure _ (fun _=>run_fa (o:=0) (by kernel_rfl)) (hd_do _ (fun W h=>run_mkdoc h.1) (hd_do _ (fun W h=>run_ob47 h.2) ?_)));refine dc_put 4 (d':=Dk.added d (Fo.mkD (Fo.narrowP f))) hda'.items.one hda'.trailer.oneK hda'.trailer.oneC ho rfl fun w13 ho=>⟨⟨ho.at_ 0 rfl,ho.at_ 3 rfl⟩,?_⟩;refine ob_put 3 rfl rfl ho rfl fun w14 ho=>?_;refine o_store 2 ho rfl (by kernel_rfl) rfl (by simp) fun w15 ho=>?_;refine leave_fn (by simp) fmake1_plain (S_font_Make_fn1_dok ?_);simp only[S_font_Make_fn1,recV,recM,Eng.n_nil Tryz.underlying20,rs,i_f];refine ret_v3 (rv_cell (ho.agg 4 rfl aggDc)) (rv_cell (ho.agg 3 rfl aggOb)) (rv_cell (by unfold AtV;exact run_loadVar_cell nErr5 (ho.cell 2 rfl 0 rfl))) ?_;exact hK _ _ N5 _ 1 ho rfl (hle.trans l5) ⟨_,rfl,vi',tk',tc',ics',rfl,hda'⟩
end
section
open Eng Go.RowKit
namespace Fo
def elems (d:Dc)(x:Ob):List Ob:=if x.k=0 then [] else x.kids.map (Dk.follow d)
def missOf (d:Dc)(x:Ob):Int:=if (val d x kDesc).k=7 then orI (val d (val d x kDesc) kMiss) 0 else 0
def readF (d:Dc)(x:Ob)(name:List UInt8):Ft:=⟨name,false,orI (val d x kFirst) 0,(elems d (val d x kWid)).map Ob.n,missOf d x,[],[]⟩
structure Simple (d:Dc) (x:Ob):Prop where
 ok:Dk.Ok d
 wt:x.wt≤100000000
 first:(val d x kFirst).k=0∨within (val d x kFirst) 255
 wid:(val d x kWid).k=0∨(val d x kWid).k=6
 widw:(val d x kWid).wt≤1000000000
 ws:∀o∈elems d (val d x kWid),within o 100000
 wl:(elems d (val d x kWid)).length≤100000000
 descw:(val d x kDesc).wt≤1000000000
 miss:(val d x kDesc).k=7→(val d (val d x kDesc) kMiss).k=0∨within (val d (val d x kDesc) kMiss) 100000
 enc:(val d x kEnc).k=0
end Fo
theorem run_rd47 {W:World}{b:Nat}{d:Dc}{o:Ob}{vi tk tc vk vc:Value}(h:(rdE b d vi tk tc o vk vc).is W):(mLoad 93 (.pointer (some ⟨b,0,none⟩))).run prog W=.ok (.value (rdV d vi tk tc o vk vc)) W:=
 run_load_at (AtV.agg aggRd (cs:=rdC d vi tk tc o vk vc) rfl fun j v hj=>by rw[Nat.zero_add];exact cells_cell (T:=93) h hj)
theorem elI64:elB prog 2 1 8=true:=by kernel_rfl
section
variable {w:World}{PK PK2:PKT}{K:VWP}{S:Nat→Prop}{w0:World}{L:List Ent}
theorem c_simple47 {d:Dc}{x:Ob}{vi tk tc xk xc:Value}{ics:List Value}{N:Mem}{bf:Nat}(name:List UInt8)(hs:Fo.Simple d x)(ho:OwnS S w0 w (ftE bf ⟨name,false,0,[],0,[],[]⟩ nilS nilS nilS::.mem N::L))(hda:DocAt N.A N.w d vi tk tc ics)(hx:OV N.A N.w (obV x xk xc) x)
  (k:∀N2 wv W,N.le N2→SlA N2.A N2.w wv 1 (Fo.readF d x name).widths.length (intsW (Fo.readF d x name).widths)→OwnS S w0 W (ftE bf (Fo.readF d x name) wv nilS nilS::.mem N2::L)→K (.tuple #[]) W) :
  CallX prog 87 #[rdV d vi tk tc x xk xc,.pointer (some ⟨bf,0,none⟩)] w PK K:=by
 refine⟨S_font_reader_simple_ok ?_⟩;unfold S_font_reader_simple;refine o_rdb d x hda hx ho fun b2 w1 ho=>?_;rw[rd_v ho 0 rfl];refine c_mem ho 2 rfl (at47_ret d x Fo.kFirst N w1 hs.ok (by have:=hs.wt;omega) (ho.hasM 2 rfl) hda hx) ?_;intro y N1 w2 l1 hy ho;obtain⟨yk,yc,_,rfl,hya⟩:=hy.open;refine c_below ho (R:=fun v=>v=.int .i64 (Fo.orI (Fo.val d x Fo.kFirst) 0)) (or47_ret _ hya.keys.one hya.kids.one 255 0 w2 hs.first) ?_;rintro _ w3 rfl ho;rw[m_nil,fa_f2];refine o_store 1 ho rfl (by kernel_rfl) rfl (by simp[ftC]) fun w4 ho=>?_;generalize hfi:Fo.orI (Fo.val d x Fo.kFirst) 0=fi at *;have ho:OwnS S w0 w4 (rdE b2 d vi tk tc x xk xc::ftE bf ⟨name,false,fi,[],0,[],[]⟩ nilS nilS nilS::.mem N1::L):=ho;have ho:=ho.drew;refine⟨fun W=>(rdE b2 d vi tk tc x xk xc).is W,ho.at_ 0 rfl,hd_do _ (fun W h=>run_rd47 h) (hd_do _ (fun W h=>run_rd47 h) ?_)⟩;refine c_mem ho 2 rfl (at47_ret d x Fo.kWid N1 _ hs.ok (by have:=hs.wt;omega) (ho.hasM 2 rfl) (hda.le l1) (hx.le l1)) ?_;intro z N2 w5 l2 hz ho;refine⟨ho.at_ 0 rfl,?_⟩;obtain⟨zk,zc,_,rfl,hza⟩:=hz.open;have h12:=l1.trans l2;refine c_mem ho 2 rfl (kids47_ret d x (Fo.val d x Fo.kWid) N2 w5 hs.ok hs.wid hs.widw (ho.hasM 2 rfl) (hda.le h12) (hx.le h12) hza.ov) ?_;rintro u N3 w6 l3 ⟨cs,hcs,hos⟩ ho;refine⟨ho.at_ 0 rfl,?_⟩;have h13:=h12.trans l3;have hcs:SlA N3.A N3.w u 6 (Fo.elems d (Fo.val d x Fo.kWid)).length cs:=hcs;have hos:OVs N3.A N3.w cs (Fo.elems d (Fo.val d x Fo.kWid)):=hos;obtain⟨ua,uc,rfl,_⟩:=hcs.form;refine hd_pure (.int .i64 ((Fo.elems d (Fo.val d x Fo.kWid)).length:Int)) (fun W=>by simp[mB,builtin,Builtin.len_,run_underlying Tryz.underlying46,goInt]) ?_;have hws:=hs.ws;have hwl:=hs.wl;have hrw:(Fo.readF d x name).widths=(Fo.elems d (Fo.val d x Fo.kWid)).map Ob.n:=rfl;have hrf:Fo.readF d x name=⟨name,false,fi,(Fo.elems d (Fo.val d x Fo.kWid)).map Ob.n,Fo.missOf d x,[],[]⟩:=by rw[←hfi];rfl
 rw[hrf] at k;generalize Fo.elems d (Fo.val d x Fo.kWid)=es at *;have ho:=OwnS.nilU ho 2 1;refine loop (fun vs W=>∃(i:Nat) (wv:Value),vs=[.int .i64 (i:Int)]∧i≤es.length∧OwnS S w0 W (.urow 2 1 wv i (intsW ((es.take i).map Ob.n))::rdE b2 d vi tk tc x xk xc::ftE bf ⟨name,false,fi,(es.take i).map Ob.n,0,[],[]⟩ wv nilS nilS::.mem N3::L)) (fun vs _=>es.length - n0 vs) ⟨0,nilS,rfl,by omega,ho⟩ ?_;clear ho;rintro vs w7 ⟨i,wv,rfl,hi,ho⟩ _;simp only[S_font_reader_simple_0,gd,rs];by_cases hlt:(i:Int) < (es.length:Int)
 ·simp only[decide_eq_true hlt,i_t];have hi':i < es.length:=by omega
  obtain⟨b,off,ek,ec,hia,hov,hcell⟩:=kids47F hcs hos hi';have hM3:=ho.hasM 3 rfl;rw[do_eq (hia w7),do_eq (run_load_at (AtV.agg aggOb (cs:=obC es[i] ek ec) rfl fun j v hj=>hcell w7 hM3 j v hj))];refine o_oba ho fun b5 w8 ho=>?_;refine ob_put 0 hov.oneK hov.oneC ho rfl fun w9 ho=>?_;have ho:OwnS S w0 w9 (obE b5 es[i] ek ec::.urow 2 1 wv i (intsW ((es.take i).map Ob.n))::rdE b2 d vi tk tc x xk xc::ftE bf ⟨name,false,fi,(es.take i).map Ob.n,0,[],[]⟩ wv nilS nilS::.mem N3::L):=ho;have ho:=ho.drew;refine⟨fun W=>(ftE bf ⟨name,false,fi,(es.take i).map Ob.n,0,[],[]⟩ wv nilS nilS).is W∧(obE b5 es[i] ek ec).is W,⟨ho.at_ 3 rfl,ho.at_ 0 rfl⟩,?_⟩;refine hd_pure _ (fun _=>run_nil47 _ _) (hd_pure _ (fun _=>run_fa (o:=3) (by kernel_rfl)) (hd_do _ (fun W h=>run_load_cell nSlI64 (cells_cell (T:=26) h.1 (i:=3) rfl)) (hd_do _ (fun W h=>run_ob47 h.2) ?_)));refine c_below ho (R:=fun v=>v=.int .i64 es[i].n) (number47w_ret es[i] hov.oneK hov.oneC 100000 _ (hws _ (List.getElem_mem hi'))) ?_;rintro _ w10 rfl ho;refine⟨⟨ho.at_ 3 rfl,ho.at_ 0 rfl⟩,?_⟩;refine o_new (fun b=>.slice (some ⟨b,0,none⟩) 1 1) (intsW [es[i].n]) 2 (fun _=>by kernel_rfl) ho fun b6 w11 ho=>⟨⟨ho.at_ 4 rfl,ho.at_ 1 rfl⟩,?_⟩;refine o_appendU 2 Tryz.underlying22 elI64 (by decide) ho rfl (ho.sl 0 rfl 1 1 1 rfl) intsW_one (by omega) (by omega) fun wv' w12 ho=>⟨⟨ho.at_ 4 rfl,ho.at_ 1 rfl⟩,?_⟩;refine hd_pure _ (fun _=>run_nil47 _ _) (hd_pure _ (fun _=>run_fa (o:=3) (by kernel_rfl)) ?_);refine o_store 4 ho rfl (by kernel_rfl) (urow_one (ho.at_ 2 rfl)) (by simp[ftC]) fun w13 ho=>?_
  try simp only[rs]
  rw[wrap64_id (by omega) (by omega)];refine nextX ⟨i+1,wv',rfl,by omega,?_⟩ (by simp[n0,RowKit.intOf];omega);have e:intsW ((es.take (i+1)).map Ob.n)=intsW ((es.take i).map Ob.n)++intsW [es[i].n]:=by
   rw[List.take_succ_eq_append_getElem hi',List.map_append];unfold intsW;rw[List.map_append];rfl
  rw[e];exact ho.tail.tail
 simp only[decide_eq_false hlt,i_f];have:i=es.length:=by omega
 subst this;rw[List.take_length] at ho;obtain⟨N4,l4,hs4,ho⟩:=OwnS.freezeU ho 2 rfl;have h14:=h13.trans l4;have ho:OwnS S w0 w7 (rdE b2 d vi tk tc x xk xc::ftE bf ⟨name,false,fi,es.map Ob.n,0,[],[]⟩ wv nilS nilS::.mem N4::L):=ho;refine joinF (fun vs W=>∃N5,N4.le N5∧OwnS S w0 W (rdE b2 d vi tk tc x xk xc::ftE bf ⟨name,false,fi,es.map Ob.n,Fo.missOf d x,[],[]⟩ wv nilS nilS::.mem N5::L)) (fun J hJ=>?_) ?_
 ·rw[rd_v ho 0 rfl];refine c_mem ho 2 rfl (at47_ret d x Fo.kDesc N4 w7 hs.ok (by have:=hs.wt;omega) (ho.hasM 2 rfl) (hda.le h14) (hx.le h14)) ?_;intro y N5 w8 l5 hy ho;obtain⟨yk,yc,_,rfl,hya⟩:=hy.open;have h15:=h14.trans l5;refine o_oba ho fun b6 w9 ho=>?_;refine ob_put 0 hya.keys.one hya.kids.one ho rfl fun w10 ho=>?_;rw[fa_o0,ob_k ho 0 rfl];simp only[rs];have hmo:Fo.missOf d x=if (Fo.val d x Fo.kDesc).k=7 then Fo.orI (Fo.val d (Fo.val d x Fo.kDesc) Fo.kMiss) 0 else 0:=rfl
  have hmi:=hs.miss;have hdw:=hs.descw;have hyo:=hya.ov;rw[hmo] at hJ;generalize Fo.val d x Fo.kDesc=D at *;by_cases h7:D.k=7
  ·rw[if_pos h7] at hJ;simp only[decide_eq_true h7,i_t];have ho:OwnS S w0 w10 (obE b6 D yk yc::rdE b2 d vi tk tc x xk xc::ftE bf ⟨name,false,fi,es.map Ob.n,0,[],[]⟩ wv nilS nilS::.mem N5::L):=ho;rw[fa_rd0,rd_d ho 1 rfl,ob_v ho 0 rfl];refine o_strb1 Fo.kMiss ho fun b7 w11 ho=>?_;obtain⟨N6,l6,hrow,ho⟩:=OwnS.freezeU (ho.toU 1 1 1 rfl (by omega) (by omega)) 3 rfl;refine c_mem ho 3 rfl (dpath_ret d D [Fo.kMiss] _ _ _ N6 w11 hs.ok (by omega) (show 1≤1000000000 by decide) (ho.hasM 3 rfl) ⟨vi,tk,tc,ics,rfl,hda.le (h15.trans l6)⟩ (hyo.le l6) hrow) ?_;intro q N7 w12 l7 hq ho;obtain⟨qk,qc,_,rfl,hqa⟩:=hq.open;refine c_below ho (R:=fun v=>v=.int .i64 (Fo.orI (Fo.val d D Fo.kMiss) 0)) (or47w_ret _ hqa.keys.one hqa.kids.one 100000 0 w12 (hmi h7)) ?_;rintro _ w13 rfl ho;rw[fa_f4];refine o_store 2 ho rfl (by kernel_rfl) rfl (by simp[ftC]) fun w14 ho=>?_;exact hJ _ _ ⟨N7,(l5.trans l6).trans l7,ho.tail⟩
  ·rw[if_neg h7] at hJ;simp only[decide_eq_false h7,i_f];exact hJ _ _ ⟨N5,l5,ho.tail⟩
 clear ho;rintro vs W ⟨N5,l5,ho⟩ _;have h15:=h14.trans l5;unfold S_font_reader_simple_1;rw[rd_v ho 0 rfl];refine c_mem ho 2 rfl (at47_ret d x Fo.kEnc N5 W hs.ok (by have:=hs.wt;omega) (ho.hasM 2 rfl) (hda.le h15) (hx.le h15)) ?_;intro y N6 w8 l6 hy ho;obtain⟨yk,yc,_,rfl,hya⟩:=hy.open;refine o_oba ho fun b7 w9 ho=>?_;refine ob_put 0 hya.keys.one hya.kids.one ho rfl fun w10 ho=>?_;rw[fa_o0,ob_k ho 0 rfl];simp only[hs.enc];refine join fun J hJ=>?_;simp only[rs,decide_true,i_t];refine hJ _ _ fun _=>?_;simp only[S_font_reader_simple_2,gd,i_t];exact k N6 wv w10 ((h15).trans l6) (by rw[List.length_map] at *;exact hs4.le (l5.trans l6)) ho.tail.tail
end
end
end Go.Proofs.YtmkodaephgnehaaGreatDoor
