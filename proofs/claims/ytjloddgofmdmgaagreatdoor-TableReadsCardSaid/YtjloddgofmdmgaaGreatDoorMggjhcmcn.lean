/- Texts that go together: TbM TbN Plain18D Plain18E EngAE TbO TbP Plain18F TbQ TbR EngAF TbS TbT Plain18G SLaw18 TbU Plain18H TbV TbW TbX TbY. -/
import Derived.Lib.SlBytesConst
import Derived.Test.YtjloddgofmdmgaaGreatDoorRows
import Derived.Test.YtjloddgofmdmgaaGreatDoorMbbiofpfn
import Derived.Test.YtjloddgofmdmgaaGreatDoorMhijkokaf
import Derived.Test.YtjloddgofmdmgaaGreatDoorMgcppajji
import Derived.Test.YtjloddgofmdmgaaGreatDoorMnooohdea
import Derived.Test.YtjloddgofmdmgaaGreatDoorMcmengahc
import Derived.Test.YtjloddgofmdmgaaGreatDoorMbgokdjnh
set_option linter.defProp false
set_option linter.unusedSimpArgs false
set_option linter.unusedVariables false
set_option maxRecDepth 20000
open Go.Proofs.Tryz (prog)
namespace Go.Proofs.YtjloddgofmdmgaaGreatDoor
section
open Eng Go.RowKit
theorem rread_1 {b4 b7:Nat}{s:List UInt8}{a:Int}{M:Mem}{w W:World}{K:Ending→World→Prop}{N2:List Value→World→Prop}{l0:List Slt}{v0:Value}{f t0:Int}{c:Nat}{ok0:Bool}(hs:s.length≤1000000)
  (hb:ok0=true→0≤f∧f+c≤8192∧0≤t0∧t0≤s.length∧SlsOk l0 l0) (hc:c≤8192) (hf:0≤f∧f≤8192)
  (hN:∀(t:Int) (ok:Bool) (l:List Slt) (v:Value) (W:World),(ok=true→ok0=true∧Tl.entries s c f t0 l0=some (l,t)∧t0≤t∧t≤s.length∧SlsOk l l)→(ok=false→ok0=false∨Tl.entries s c f t0 l0=none) →
   OwnS M.A w W [slsE v l,secE b7 ⟨a,l,Vl.ob0,0,0,0⟩ v nilS nilS,secE b4 Tl.sec0 nilS nilS nilS,.mem M]→N2 [.int .i64 t,.bool ok] W)
  (ho:OwnS M.A w W [slsE v0 l0,secE b7 ⟨a,l0,Vl.ob0,0,0,0⟩ v0 nilS nilS,secE b4 Tl.sec0 nilS nilS nilS,.mem M]) :
  S_foliantref18_Read_1 (.string ⟨s.toArray⟩) (.pointer (some ⟨b7,0,none⟩)) (.int .i64 t0) (.bool ok0) (.int .i64 f) (.int .i64 c) W N2 K:=by
 unfold S_foliantref18_Read_1;refine loop (fun vs w'=>∃(i:Nat) (t:Int) (ok:Bool) (l:List Slt) (v:Value),vs=[.int .i64 t,.bool ok,.int .i64 i]∧i≤c∧(ok=true→ok0=true∧Tl.entries s (c - i) (f+i) t l=Tl.entries s c f t0 l0∧t0≤t∧t≤s.length∧SlsOk l l) ∧
   (ok=false→ok0=false∨Tl.entries s c f t0 l0=none)∧OwnS M.A w w' [slsE v l,secE b7 ⟨a,l,Vl.ob0,0,0,0⟩ v nilS nilS,secE b4 Tl.sec0 nilS nilS nilS,.mem M]) (fun vs _=>c - n2 vs)
  ⟨0,t0,ok0,l0,v0,rfl,by omega,fun h=>⟨h,by rw[Nat.sub_zero,show f+((0:Nat):Int)=f by omega],by omega,(hb h).2.2.2.1,(hb h).2.2.2.2⟩,fun h=>.inl h,ho⟩ ?_
 clear ho;rintro vs w2 ⟨i,t,ok,l,v,rfl,hi,hyes,hno,ho⟩ _;simp only[S_foliantref18_Read_2,gd,rs];by_cases hlt:(i:Int) < (c:Int)
 case neg=>
  have hic:i=c:=by omega
  subst hic;simp only[decide_eq_false hlt,rs];refine hN t ok l v w2 (fun h=>?_) hno ho;obtain⟨h0,h1,h2,h3,h4⟩:=hyes h;rw[Nat.sub_self,Tl.entries] at h1;exact⟨h0,h1.symm,h2,h3,h4⟩
 simp only[decide_eq_true hlt,rs];cases ok with
|false=>
  simp only[rs];exact hN t false l v w2 (fun h=>by cases h) hno ho
|true=>
 obtain⟨h0,hent,h1,h2,hok⟩:=hyes rfl;obtain⟨hf0,hf1,ht0,ht1,_⟩:=hb h0;simp only[rs];refine join fun J hJ=>?_;refine o_sla ho fun b15 w3 ho=>?_;rw[wrap64_id (by omega) (by omega)];refine c_below ho (R:=fun r=>∃x t',r=.tuple #[slV x,.int .i64 t',.bool (Tl.entry s t (f+i)).isSome]∧∀p,Tl.entry s t (f+i)=some p→p=(x,t')) (rentry18_ret s t (f+i) w3 (by omega)) ?_;rintro _ w4 ⟨x,t',rfl,hx⟩ ho;simp only[ex];refine sl_put (y:=x) 0 ho rfl fun w5 ho=>?_;have ho:OwnS M.A w w5 [slE b15 x,slsE v l,secE b7 ⟨a,l,Vl.ob0,0,0,0⟩ v nilS nilS,secE b4 Tl.sec0 nilS nilS nilS,.mem M]:=ho;have next:∀{t2:Int} {ok2:Bool} {l2:List Slt} {v2:Value} {W:World},(ok2=true→ok0=true∧Tl.entries s (c - (i+1)) (f+i+1) t2 l2=Tl.entries s c f t0 l0∧t0≤t2∧t2≤s.length∧SlsOk l2 l2) →
   (ok2=false→ok0=false∨Tl.entries s c f t0 l0=none)→OwnS M.A w W [slsE v2 l2,secE b7 ⟨a,l2,Vl.ob0,0,0,0⟩ v2 nilS nilS,secE b4 Tl.sec0 nilS nilS nilS,.mem M]→J [.int .i64 t2,.bool ok2] W:=by
  intro t2 ok2 l2 v2 W hy hn ho;refine hJ _ _ fun _=>?_;simp only[S_foliantref18_Read_3,gd,rs];rw[wrap64_id (by omega) (by omega)];refine nextX ⟨i+1,t2,ok2,l2,v2,rfl,by omega,fun h=>?_,hn,ho⟩ (by show c - Int.toNat ((i:Int)+1) < c - Int.toNat (i:Int);omega);obtain⟨g0,g1,g2⟩:=hy h;exact⟨g0,by rw[show f+((i+1:Nat):Int)=f+i+1 by omega];exact g1,g2⟩
 rw[show c - i=(c - (i+1))+1 by omega,Tl.entries] at hent;cases he:Tl.entry s t (f+i) with
|none=>
  rw[he] at hent;simp only at hent;simp only[Option.isSome_none,i_f];exact next (fun h=>by cases h) (fun _=>.inr hent.symm) ho.tail
|some p=>
 have hp:=hx p he;subst hp;rw[he] at hent;simp only at hent;have hadv:=entry_adv he;simp only[Option.isSome_some,i_t];rw[fa_se1,se_sl ho 2 rfl,sl_v ho 0 rfl];have hlen:=hok.len;refine c_ret (rlay18_ret l x v w5 (ho.at_ 1 rfl) (by omega) hok.rise) ?_;rintro _ w6 ⟨v',l',rfl,hl',ht⟩;have ho:=ho.turn 1 rfl ht;have ho:OwnS M.A w w6 [slE b15 x,slsE v' l',secE b7 ⟨a,l,Vl.ob0,0,0,0⟩ v nilS nilS,secE b4 Tl.sec0 nilS nilS nilS,.mem M]:=ho;simp only[ex];rw[fa_se1];have hone:=urow_one (ho.at_ 1 rfl);refine o_store 2 ho rfl (by kernel_rfl) hone (show 1 < 11 by omega) fun w7 ho=>?_;have ho:OwnS M.A w w7 [slE b15 x,slsE v' l',secE b7 ⟨a,l',Vl.ob0,0,0,0⟩ v' nilS nilS,secE b4 Tl.sec0 nilS nilS nilS,.mem M]:=ho;cases hl:Tl.lay l x with
|none=>
  rw[hl] at hent;simp only at hent;simp only[Option.isSome_none];exact next (fun h=>by cases h) (fun _=>.inr hent.symm) ho.tail
|some y=>
  have:=hl' y hl;subst this;rw[hl] at hent;simp only at hent;have hk:=hok.lay (x:=x) (by rw[hadv.2.2.2];omega) hl;simp only[Option.isSome_some];exact next (fun _=>⟨h0,hent,by omega,hadv.2.2.1,⟨List.Perm.refl _,hk.rise,hk.nums⟩⟩) (fun h=>by cases h) ho.tail
def slotsEnd (s:List UInt8)(a:Int):Option (List Slt×Int)→Sec×Int×Int
|none=>Tl.bad
|some r=>Tl.finish s a r.1 r.2
def isT:Value→Bool
|.bool b=>b
|_=>false
def okN (n:Nat)(vs:List Value):Nat:=if isT (vs.getD 1 undef) then n - n0 vs+1 else 0
theorem rread18_ret (s:List UInt8)(a:Int)(M:Mem)(w:World)(hs:s.length≤1000000)(hM:M.has w):RetM prog 9 #[.string ⟨s.toArray⟩,.int .i64 a] M w (secR (Tl.read s a)):=by
 refine retM_of hM fun K hK=>S_foliantref18_Read_ok ?_;unfold S_foliantref18_Read;refine o_sea (OwnS.memS hM) fun b4 w1 ho=>?_;rw[m_se1];refine o_sea ho fun b7 w2 ho=>?_;refine se_put (y:={ Tl.sec0 with at_:=a }) 0 rfl rfl rfl ho rfl fun w3 ho=>?_;have ho:OwnS M.A w w3 [secE b7 ⟨a,[],Vl.ob0,0,0,0⟩ nilS nilS nilS,secE b4 Tl.sec0 nilS nilS nilS,.mem M]:=ho;refine c_eq (rbegins_ret s [120,114,101,102] a w3 (by omega)) ?_;rw[begins_x];have hread:=Tl.read.eq_1 s a;cases hbg:Tl.beginsX s a with
|false=>
  rw[if_pos hbg] at hread;simp only[rs,Bool.not_false];rw[m_se0];refine se_put (y:=Tl.sec0) 1 rfl rfl rfl ho rfl fun w4 ho=>?_;refine ret_v3 (rv_cell (ho.agg 1 rfl aggSec)) rv_val rv_val (hK _ _ M _ 2 ho rfl M.le_refl ?_);rw[hread];exact⟨_,rfl,sec0_v⟩
|true=>
 rw[if_neg (by rw[hbg];simp)] at hread;simp only[rs,Bool.not_true];refine c_below ho (R:=fun v=>v=.tuple #[.int .i64 (Lx.next s a).1.t,.bool (Tl.word s a Tl.xrefW).isSome]) (rword18_ret s a Tl.xrefW w3 (by omega)) ?_;rintro _ w4 rfl ho;simp only[ex];have ho:=OwnS.nilU ho 49 4;have ho:OwnS M.A w w4 [slsE nilS [],secE b7 ⟨a,[],Vl.ob0,0,0,0⟩ nilS nilS nilS,secE b4 Tl.sec0 nilS nilS nilS,.mem M]:=ho;have htok:∀{t t':Int} {k:List UInt8},Tl.word s t k=some t'→(Lx.next s t).1.t=t':=by
  intro t t' k h;unfold Tl.word at h;split at h
  ·exact Option.some.inj h
  ·cases h
 refine join fun J hJ=>?_;refine loop (fun vs w'=>∃(t:Int) (ok:Bool) (l:List Slt) (v:Value),vs=[.int .i64 t,.bool ok]∧(ok=true→0≤t∧t≤s.length∧SlsOk l l∧∃m:Nat,(s.length:Int) < t+m∧Tl.read s a=slotsEnd s a (Tl.slots s m t l))∧(ok=false→Tl.read s a=Tl.bad) ∧
   OwnS M.A w w' [slsE v l,secE b7 ⟨a,l,Vl.ob0,0,0,0⟩ v nilS nilS,secE b4 Tl.sec0 nilS nilS nilS,.mem M]) (fun vs _=>okN s.length vs) ⟨_,_,[],nilS,rfl,fun h=>?_,fun h=>?_,ho⟩ ?_
 ·cases hw:Tl.word s a Tl.xrefW with
 |none=>rw[hw] at h;cases h
 |some t=>
   rw[hw] at hread;simp only at hread;have hadv:=word_adv hw;rw[htok hw];refine⟨by omega,hadv.2.2,⟨List.Perm.nil,List.Pairwise.nil,by simp⟩,s.length+1,by omega,?_⟩;rw[hread];cases Tl.slots s (s.length+1) t []<;>rfl
 ·cases hw:Tl.word s a Tl.xrefW with
 |none=>rw[hw] at hread;exact hread
 |some t=>rw[hw] at h;cases h
 clear ho hread;rintro vs w5 ⟨t,ok,l,v,rfl,hyes,hno,ho⟩ _;simp only[S_foliantref18_Read_0,gd];have fin:∀{t:Int} {ok:Bool} {l:List Slt} {v:Value} {W:World},(ok=false→Tl.read s a=Tl.bad)→(ok=true→Tl.read s a=Tl.finish s a l t)→OwnS M.A w W [slsE v l,secE b7 ⟨a,l,Vl.ob0,0,0,0⟩ v nilS nilS,secE b4 Tl.sec0 nilS nilS nilS,.mem M]→J [.int .i64 t,.bool ok] W:=
  fun h1 h2 ho=>hJ _ _ fun _=>by simp only[gd];exact rread_4 hs hK M.le_refl h1 h2 ho
 cases ok with
|false=>
  simp only[i_f];exact fin hno (fun h=>by cases h) ho
|true=>
 obtain⟨ht0,ht1,hok,m,hm,hrd⟩:=hyes rfl;simp only[i_t];obtain⟨m,rfl⟩:∃k,m=k+1:=⟨m - 1,by omega⟩;rw[Tl.slots] at hrd;refine c_below ho (R:=fun v=>v=.tuple #[.int .i64 (Lx.next s t).1.t,.bool (Tl.word s t Tl.trailW).isSome]) (rword18_ret s t Tl.trailW w5 (by omega)) ?_;rintro _ w6 rfl ho;simp only[ex];cases hw:Tl.word s t Tl.trailW with
|some t'=>
  rw[hw] at hrd;simp only[Option.isSome_some,i_t];rw[htok hw];exact fin (fun h=>by cases h) (fun _=>hrd) ho
|none=>
 rw[hw] at hrd;simp only at hrd;simp only[Option.isSome_none,i_f];refine c_below ho (R:=fun v=>v=numV (Tl.number s t 0 8191)) (rnum18_ret s t 0 8191 w6 (by omega)) ?_;rintro _ w7 rfl ho
 -- behind a section
 have fail:∀{f t':Int} {c:Nat} {W:World},c≤8192→0≤f∧f≤8192→Tl.read s a=Tl.bad→OwnS M.A w W [slsE v l,secE b7 ⟨a,l,Vl.ob0,0,0,0⟩ v nilS nilS,secE b4 Tl.sec0 nilS nilS nilS,.mem M] →
   S_foliantref18_Read_1 (.string ⟨s.toArray⟩) (.pointer (some ⟨b7,0,none⟩)) (.int .i64 t') (.bool false) (.int .i64 f) (.int .i64 c) W (NextX (fun vs w'=>∃(t:Int) (ok:Bool) (l:List Slt) (v:Value),vs=[.int .i64 t,.bool ok]∧(ok=true→0≤t∧t≤s.length∧SlsOk l l∧∃m:Nat,(s.length:Int) < t+m∧Tl.read s a=slotsEnd s a (Tl.slots s m t l))∧(ok=false→Tl.read s a=Tl.bad) ∧
   OwnS M.A w w' [slsE v l,secE b7 ⟨a,l,Vl.ob0,0,0,0⟩ v nilS nilS,secE b4 Tl.sec0 nilS nilS nilS,.mem M]) (fun vs _=>okN s.length vs) [.int .i64 t,.bool true] w5) K:=by
  intro f t' c W hc hf hbad ho;refine rread_1 hs (fun h=>by cases h) hc hf (fun t2 ok2 l2 v2 W2 hy hn ho=>?_) ho;cases ok2 with
 |true=>exact absurd (hy rfl).1 (by simp)
 |false=>exact nextX ⟨t2,false,l2,v2,rfl,fun h=>(by cases h),fun _=>hbad,ho⟩ (by show okN s.length [.int .i64 t2,.bool false] < okN s.length [.int .i64 t,.bool true];unfold okN isT;simp)
 cases hn:Tl.number s t 0 8191 with
|none=>
  rw[hn] at hrd;simp only[numV,ex];refine join fun J3 hJ3=>?_;simp only[i_f];refine hJ3 _ _ fun _=>?_;simp only[gd];exact fail (c:=0) (by omega) (by omega) hrd ho
|some p=>
 rw[hn] at hrd;simp only at hrd;have hadv:=num_adv (n:=p.1) (t:=p.2) hn;have hb1:0≤p.1∧p.1≤8191:=by
  unfold Tl.number at hn;split at hn
  ·cases hn
  ·have:=Option.some.inj hn;rw[←this];simp only;omega
 simp only[numV,ex];refine join fun J3 hJ3=>?_;simp only[i_t,rs];rw[wrap64_id (by omega) (by omega)];refine c_below ho (R:=fun v=>v=numV (Tl.number s p.2 0 (8192 - p.1))) (rnum18_ret s p.2 0 (8192 - p.1) w7 (by omega)) ?_;rintro _ w8 rfl ho;cases hn2:Tl.number s p.2 0 (8192 - p.1) with
|none=>
  rw[hn2] at hrd;simp only[numV,ex];refine hJ3 _ _ fun _=>?_;simp only[gd];exact fail (c:=0) (by omega) (by omega) hrd ho
|some q=>
 rw[hn2] at hrd;simp only at hrd;have hadv2:=num_adv (n:=q.1) (t:=q.2) hn2;have hb2:0≤q.1∧q.1≤8192 - p.1:=by
  unfold Tl.number at hn2;split at hn2
  ·cases hn2
  ·have:=Option.some.inj hn2;rw[←this];simp only;omega
 simp only[numV,ex];refine hJ3 _ _ fun _=>?_;simp only[gd];obtain⟨c,hc⟩:∃n:Nat,q.1=(n:Int):=⟨q.1.toNat,by omega⟩;rw[hc] at hb2 hrd ⊢;rw[Int.toNat_natCast] at hrd;refine rread_1 hs (fun _=>⟨by omega,by omega,by omega,by omega,hok⟩) (by omega) (by omega) (fun t2 ok2 l2 v2 W2 hy hn ho=>?_) ho;cases ok2 with
|true=>
  obtain⟨_,he,h1,h2,h3⟩:=hy rfl;rw[he] at hrd;simp only at hrd;refine nextX ⟨t2,true,l2,v2,rfl,fun _=>⟨by omega,h2,h3,m,by omega,hrd⟩,fun h=>(by cases h),ho⟩ ?_;show okN s.length [.int .i64 t2,.bool true] < okN s.length [.int .i64 t,.bool true];unfold okN isT;simp only[List.getD_cons_succ,List.getD_cons_zero,if_true];show s.length - Int.toNat t2+1 < s.length - Int.toNat t+1;omega
|false=>
  rcases hn rfl with h|h
  ·cases h
  ·rw[h] at hrd;exact nextX ⟨t2,false,l2,v2,rfl,fun h=>(by cases h),fun _=>hrd,ho⟩ (by show okN s.length [.int .i64 t2,.bool false] < okN s.length [.int .i64 t,.bool true];unfold okN isT;simp)
end
section
open Eng Go.RowKit
abbrev slsC (l:List Slt):List Value:=l.flatMap slC
theorem slot_at {M:Mem}{v:Value}{l:List Slt}(hs:SlA M.A M.w v 4 l.length (slsC l)){i:Nat}(hi:i < l.length) :
  ∃(b off:Nat),∀W,M.has W→(mIA 23 v (.int .i64 (i:Int))).run prog W=.ok (.value (.pointer (some ⟨b,off,none⟩))) W∧∀j u,(slC l[i])[j]?=some u→W.cell? ⟨b,off+j,none⟩=some u:=by
 obtain⟨b,off,cap,rfl,_⟩:=sl_open hs.1 (by omega);refine⟨b,off+i*4,fun W hW=>⟨?_,fun j u hj=>?_⟩⟩
 ·have:=run_ia (P:=prog) (T:=23) (b:=b) (off:=off) (cap:=cap) (n:=l.length) (k:=.i64) (i:=(i:Int)) (w:=W) Tryz.underlying23 szSl (by omega) (by omega);rw[Int.toNat_natCast] at this;exact this
 ·have:=Sl.cellAt (hs.now hW) (i*4+j) u (Eng.flat_get slC_len hi hj)
  rwa [←Nat.add_assoc] at this
theorem run_slt {W:World}{b off:Nat}{x:Slt}(h:∀j u,(slC x)[j]?=some u→W.cell? ⟨b,off+j,none⟩=some u):(mLoad 49 (.pointer (some ⟨b,off,none⟩))).run prog W=.ok (.value (slV x)) W:=
 run_load_at (AtV.agg aggSl (cs:=slC x) rfl h)
theorem run_snum {W:World}{b off:Nat}{x:Slt}(h:∀j u,(slC x)[j]?=some u→W.cell? ⟨b,off+j,none⟩=some u):(mLoad 3 (.pointer (some ⟨b,off,none⟩))).run prog W=.ok (.value (.int .i64 x.num)) W:=
 run_load_cell nInt5 (h 0 _ rfl)
namespace Tl
def lastN (l:List Slt):Nat→Option Int
|0=>none
|i+1=>(l[i]?).map (·.num)
theorem checkG_step {l:List Slt}{i:Nat}(hi:i < l.length):checkG (lastN l i) (l.drop i)=if okS l[i]≠0 then okS l[i] else if (lastN l i).any (fun n=>decide (l[i].num=n)) then 9 else if (lastN l i).any (fun n=>decide (l[i].num < n)) then 1 else checkG (lastN l (i+1)) (l.drop (i+1)):=by
 rw[List.drop_eq_getElem_cons hi,checkG,lastN,List.getElem?_eq_getElem hi];rfl
end Tl
theorem okS_fits (x:Slt):Tl.okS x=if x.num < 0∨8191 < x.num then 2 else if x.kind < 0∨2 < x.kind then 10 else if fitsS x then 0 else 2:=by
 unfold Tl.okS fitsS;by_cases h1:x.num < 0∨8191 < x.num
 ·rw[if_pos h1,if_pos h1]
 by_cases h2:x.kind < 0∨2 < x.kind
 ·rw[if_neg h1,if_pos h2,if_neg h1,if_pos h2]
 rw[if_neg h1,if_neg h2,if_neg h1,if_neg h2];by_cases h3:x.kind=2
 ·rw[if_pos h3,if_pos h3];by_cases h4:x.a < 1∨8191 < x.a∨x.b < 0∨8191 < x.b
  ·rw[if_pos h4,if_neg (by simp;omega)]
  ·rw[if_neg h4,if_pos (by simp;omega)]
 ·rw[if_neg h3,if_neg h3];by_cases h4:x.a < 0∨2147483647 < x.a∨x.b < 0∨65535 < x.b
  ·rw[if_pos h4,if_neg (by simp;omega)]
  ·rw[if_neg h4,if_pos (by simp;omega)]
section
variable {S:Nat→Prop}{w w0:World}{L:List Ent}
theorem q_eqlast {b:Nat}{M:Mem}{v:Value}{l:List Slt}{x:Slt}{i:Nat}(jx jm:Nat)(ho:OwnS S w0 w L)(hx:L[jx]?=some (slE b x))(hm:L[jm]?=some (.mem M))(hs:SlA M.A M.w v 4 l.length (slsC l))(hi:i≤l.length)(hb:l.length≤1000000000000){xo yo:Operand}{F:VWP}
  (h:∀W,OwnS S w0 W L→F (.bool ((Tl.lastN l i).any fun n=>decide (x.num=n))) W) :
  QuietX w (fun C2=>
 QDo prog C2 (mBin .gtr 3 (.int .i64 (i:Int)) (.int .i64 0)) fun t36=>
 GQ t36 true (fun E=>QDo prog C2 (mFA 49 (.pointer (some ⟨b,0,none⟩)) 0) E) fun t38=>
 GQ t36 true (fun E=>QDo prog C2 (mLoad 3 t38) E) fun t39=>
 GQ t36 true (fun E=>E v) fun t40=>
 GQ t36 true (fun E=>E (.int .i64 (i:Int))) fun t41=>
 GQ t36 true (fun E=>QDo prog C2 (mBin .sub 3 t41 (.int .i64 1)) E) fun t42=>
 GQ t36 true (fun E=>QDo prog C2 (mIA 23 t40 t42) E) fun t43=>
 GQ t36 true (fun E=>QDo prog C2 (mFA 49 t43 0) E) fun t44=>
 GQ t36 true (fun E=>QDo prog C2 (mLoad 3 t44) E) fun t45=>
 GQ t36 true (fun E=>QDo prog C2 (mEq .eql 3 xo yo t39 t45) E) fun t46=>
 QDo prog C2 (mPick t36 t46 (.bool false)) fun t47=>
 ∀w,C2 w→F t47 w):=by
 refine quiet ?_;rcases Nat.eq_zero_or_pos i with hz|hz
 ·subst hz;refine q_gtr ?_;simp only[show decide ((0:Int) < ((0:Nat):Int))=false by decide,gq,gq_un];exact q_pf fun W hb=>h W (ho.grow hb)
 obtain⟨j,rfl⟩:∃j,i=j+1:=⟨i - 1,by omega⟩;have hj:(0:Int) < ((j+1:Nat):Int):=by omega
 have hw1:IntKind.wrap .i64 (((j+1:Nat):Int) - 1)=(j:Int):=by rw[wrap64_id (by omega) (by omega)];omega
 obtain⟨g,off,hr⟩:=slot_at hs (i:=j) (by omega);refine q_gtr ?_;simp only[decide_eq_true hj,gq,gq_un];refine q_do _ (fun _=>run_fa fs0) ?_;refine q_at (.int .i64 x.num) (fun _ hb=>run_load_cell nInt5 ((ho.grow hb).cell jx hx 0 rfl)) ?_;refine q_do (.int .i64 (j:Int)) (fun _=>by rw[r_sub,hw1]) ?_;refine q_at _ (fun W hb=>(hr W ((ho.grow hb).hasM jm hm)).1) ?_;refine q_do _ (fun _=>run_fa fs0) ?_;refine q_at (.int .i64 l[j].num) (fun W hb=>run_snum (hr W ((ho.grow hb).hasM jm hm)).2) ?_;refine q_eq ?_;refine q_pt fun W hb=>?_;have e:Tl.lastN l (j+1)=some l[j].num:=by rw[Tl.lastN,List.getElem?_eq_getElem (by omega)];rfl
 have:=h W (ho.grow hb);rw[e] at this;exact this
theorem q_lslast {b:Nat}{M:Mem}{v:Value}{l:List Slt}{x:Slt}{i:Nat}(jx jm:Nat)(ho:OwnS S w0 w L)(hx:L[jx]?=some (slE b x))(hm:L[jm]?=some (.mem M))(hs:SlA M.A M.w v 4 l.length (slsC l))(hi:i≤l.length)(hb:l.length≤1000000000000){F:VWP}
  (h:∀W,OwnS S w0 W L→F (.bool ((Tl.lastN l i).any fun n=>decide (x.num < n))) W) :
  QuietX w (fun C2=>
 QDo prog C2 (mBin .gtr 3 (.int .i64 (i:Int)) (.int .i64 0)) fun t36=>
 GQ t36 true (fun E=>QDo prog C2 (mFA 49 (.pointer (some ⟨b,0,none⟩)) 0) E) fun t38=>
 GQ t36 true (fun E=>QDo prog C2 (mLoad 3 t38) E) fun t39=>
 GQ t36 true (fun E=>E v) fun t40=>
 GQ t36 true (fun E=>E (.int .i64 (i:Int))) fun t41=>
 GQ t36 true (fun E=>QDo prog C2 (mBin .sub 3 t41 (.int .i64 1)) E) fun t42=>
 GQ t36 true (fun E=>QDo prog C2 (mIA 23 t40 t42) E) fun t43=>
 GQ t36 true (fun E=>QDo prog C2 (mFA 49 t43 0) E) fun t44=>
 GQ t36 true (fun E=>QDo prog C2 (mLoad 3 t44) E) fun t45=>
 GQ t36 true (fun E=>QDo prog C2 (mBin .lss 3 t39 t45) E) fun t46=>
 QDo prog C2 (mPick t36 t46 (.bool false)) fun t47=>
 ∀w,C2 w→F t47 w):=by
 refine quiet ?_;rcases Nat.eq_zero_or_pos i with hz|hz
 ·subst hz;refine q_gtr ?_;simp only[show decide ((0:Int) < ((0:Nat):Int))=false by decide,gq,gq_un];exact q_pf fun W hb=>h W (ho.grow hb)
 obtain⟨j,rfl⟩:∃j,i=j+1:=⟨i - 1,by omega⟩;have hj:(0:Int) < ((j+1:Nat):Int):=by omega
 have hw1:IntKind.wrap .i64 (((j+1:Nat):Int) - 1)=(j:Int):=by rw[wrap64_id (by omega) (by omega)];omega
 obtain⟨g,off,hr⟩:=slot_at hs (i:=j) (by omega);refine q_gtr ?_;simp only[decide_eq_true hj,gq,gq_un];refine q_do _ (fun _=>run_fa fs0) ?_;refine q_at (.int .i64 x.num) (fun _ hb=>run_load_cell nInt5 ((ho.grow hb).cell jx hx 0 rfl)) ?_;refine q_do (.int .i64 (j:Int)) (fun _=>by rw[r_sub,hw1]) ?_;refine q_at _ (fun W hb=>(hr W ((ho.grow hb).hasM jm hm)).1) ?_;refine q_do _ (fun _=>run_fa fs0) ?_;refine q_at (.int .i64 l[j].num) (fun W hb=>run_snum (hr W ((ho.grow hb).hasM jm hm)).2) ?_;refine q_lss ?_;refine q_pt fun W hb=>?_;have e:Tl.lastN l (j+1)=some l[j].num:=by rw[Tl.lastN,List.getElem?_eq_getElem (by omega)];rfl
 have:=h W (ho.grow hb);rw[e] at this;exact this
end
 attribute [local congr] g_congr
theorem tcheck_ret (l:List Slt)(v:Value)(M:Mem)(w:World)(hb:l.length≤1000000000000)(hM:M.has w)(hs:SlA M.A M.w v 4 l.length (slsC l)) :
  Ret prog 16 #[v] w (fun r w'=>r=.int .i64 (Tl.check l)∧Below w.heap.size w w'):=by
 refine ret_of fun K hK=>S_table_Check_ok ?_;unfold S_table_Check;rw[sl_len Tryz.underlying23 (hs.now hM)];refine loop (fun vs W=>∃i:Nat,vs=[.int .i64 i]∧i≤l.length∧Tl.check l=Tl.checkG (Tl.lastN l i) (l.drop i)∧OwnS M.A w W [.mem M]) (fun vs _=>l.length - n0 vs) ⟨0,rfl,by omega,rfl,OwnS.memS hM⟩ ?_;rintro vs w1 ⟨i,rfl,hi,he,ho⟩ _;simp only[S_table_Check_0,gd,rs];by_cases hlt:(i:Int) < (l.length:Int)
 case neg=>
  simp only[decide_eq_false hlt,i_f];rw[List.drop_eq_nil_of_le (by omega),Tl.checkG] at he;exact hK _ _ ⟨by rw[he],(ho.toGives 0 rfl M.le_refl hM).below⟩
 have hi':i < l.length:=by omega
 simp only[decide_eq_true hlt,i_t];rw[Tl.checkG_step hi',okS_fits] at he;obtain⟨g,off,hr⟩:=slot_at hs hi';obtain⟨r1,r2⟩:=hr w1 (ho.hasM 0 rfl);refine do_eq r1 |>.mpr (do_eq (run_slt r2) |>.mpr ?_);refine o_sla ho fun b4 w2 ho=>?_;refine sl_put (y:=l[i]) 0 ho rfl fun w3 ho=>?_;have ho:OwnS M.A w w3 [slE b4 l[i],.mem M]:=ho;have hn:l[i]?=some l[i]:=List.getElem?_eq_getElem hi';generalize hxx:l[i]=x at *;have l0:∀{PK:PKT} {K:VWP},DoX prog (mLoad 3 (.pointer (some ⟨b4,0,none⟩))) w3 PK K=K (.int .i64 x.num) w3:=l_cell nInt5 (ho.cell 0 rfl 0 rfl);have l1:∀{PK:PKT} {K:VWP},DoX prog (mLoad 3 (.pointer (some ⟨b4,0+1,none⟩))) w3 PK K=K (.int .i64 x.kind) w3:=l_cell nInt5 (ho.cell 0 rfl 1 rfl);have fin:∀{W:World} {e:Int} {L:List Ent},OwnS M.A w W (L++([.mem M]++[]))→Tl.check l=e→K (.returned (.int .i64 e)) W:=by
  intro W e L ho h;exact hK _ _ ⟨by rw[h],(ho.front.toGives 0 rfl M.le_refl hM).below⟩
 simp +contextual only[rs,gs,fa_s0',l0];rw[i_bool];refine⟨fun hB=>fin (L:=[_]) ho ?_,fun hB=>?_⟩
 ·simp only[Bool.or_eq_true,decide_eq_true_eq] at hB;rw[he,if_pos hB];rfl
 have hB:¬(x.num < 0∨8191 < x.num):=by simp only[Bool.or_eq_false_iff,decide_eq_false_iff_not] at hB;omega
 rw[if_neg hB] at he;simp +contextual only[rs,gs,fa_s1',l1];rw[i_bool];refine⟨fun hB=>fin (L:=[_]) ho ?_,fun hB=>?_⟩
 ·simp only[Bool.or_eq_true,decide_eq_true_eq] at hB;rw[he,if_pos hB];rfl
 have hB:¬(x.kind < 0∨2 < x.kind):=by simp only[Bool.or_eq_false_iff,decide_eq_false_iff_not] at hB;omega
 rw[if_neg hB] at he;rw[sl_v ho 0 rfl];refine c_below ho (R:=fun v=>v=.bool (fitsS x)) (tfits_ret x w3) ?_;rintro _ w4 rfl ho;simp only[rs];cases hf:fitsS x with
|false=>
  rw[hf] at he;simp only[Bool.not_false,i_t];exact fin (L:=[_]) ho (by rw[he];rfl)
|true=>
 rw[hf] at he;simp only[Bool.not_true,i_f];simp only[if_true,ne_eq,not_true,if_false] at he;refine q_eqlast 0 1 ho rfl rfl hs hi hb fun w5 ho=>?_;rw[i_bool];refine⟨fun hB=>fin (L:=[_]) ho (by rw[he,if_pos hB]),fun hB=>?_⟩;rw[if_neg (by rw[hB];simp)] at he;refine q_lslast 0 1 ho rfl rfl hs hi hb fun w6 ho=>?_;rw[i_bool];refine⟨fun hB=>fin (L:=[_]) ho (by rw[he,if_pos hB]),fun hB=>?_⟩;rw[if_neg (by rw[hB];simp)] at he;rw[wrap64_id (by omega) (by omega)];exact nextX ⟨i+1,rfl,by omega,he,ho.tail⟩ (by show l.length - Int.toNat ((i:Int)+1) < l.length - Int.toNat (i:Int);omega)
end
section
open Go
namespace Tl
open Lx (Tok Single skip next)
open Ps (At Toks)
theorem grp_bounds {g:List Slt}(hg:Grp g)(hok:∀x∈g,OkS x):0≤first g∧first g≤8191∧1≤g.length∧g.length≤8192:=by
 obtain⟨z,hz,hzn⟩:=grp_last hg;have n1:=(hok z hz).n1;have hf0:0≤first g:=by
  cases hgg:g with
 |nil=>exact absurd hgg hg.1
 |cons y t=>exact (hok y (by rw[hgg];exact List.mem_cons_self)).n0
 have hlen:1≤g.length:=by
  cases hgg:g with
 |nil=>exact absurd hgg hg.1
 |cons y t=>simp
 exact⟨hf0,by omega,hlen,by omega⟩
end Tl
end
section
open Go
namespace Tl
def adj (y x:Slt):Prop:=y.num < x.num∧x.num - 1=y.num
instance (y x:Slt):Decidable (adj y x):=by unfold adj;infer_instance
def addTo (gs:List (List Slt))(x:Slt):List (List Slt):=match gs.getLast? with
|none=>[[x]]
|some g=>match g.getLast? with
 |none=>gs++[[x]]
 |some y=>if adj y x then gs.dropLast++[g++[x]] else gs++[[x]]
theorem groupsG_ne:∀(l cur:List Slt),cur≠[]→groupsG cur l≠[]
|[],cur,h=>by rw[groupsG,if_neg h];simp
|x::l,cur,h=>by
  rw[groupsG];cases hg:cur.getLast? with
 |none=>exact groupsG_ne l [x] (by simp)
 |some y=>
   simp only;split
   ·exact groupsG_ne l _ (by simp)
   ·simp
theorem addTo_cons {g:List Slt}{gs:List (List Slt)}{x:Slt}(h:gs≠[]):addTo (g::gs) x=g::addTo gs x:=by
 unfold addTo;have e:(g::gs).getLast?=gs.getLast?:=by
  cases gs with
 |nil=>exact absurd rfl h
 |cons a b=>rw[List.getLast?_cons_cons]
 rw[e];cases hg:gs.getLast? with
|none=>exact absurd (List.getLast?_eq_none_iff.1 hg) h
|some u=>
  simp only;cases hu:u.getLast? with
 |none=>rfl
 |some y=>
   simp only;split
   ·rw[List.dropLast_cons_of_ne_nil h];rfl
   ·rfl
theorem groupsG_snoc (x:Slt):∀(l cur:List Slt),groupsG cur (l++[x])=addTo (groupsG cur l) x
|[],cur=>by
  rw[List.nil_append,groupsG,groupsG];cases hg:cur.getLast? with
 |none=>
   have hc:cur=[]:=List.getLast?_eq_none_iff.1 hg;subst hc;rfl
 |some y=>
   have hc:cur≠[]:=fun e=>by rw[e] at hg;cases hg
   rw[if_neg hc];unfold addTo;simp only[List.getLast?_singleton,hg];unfold adj;split
   ·rename_i h;rw[groupsG,if_neg (by simp)];simp[h]
   ·rename_i h;rw[groupsG,if_neg (by simp)];simp[h]
|z::l,cur=>by
  rw[List.cons_append,groupsG,groupsG];cases hg:cur.getLast? with
 |none=>exact groupsG_snoc x l [z]
 |some y=>
   simp only;split
   ·exact groupsG_snoc x l _
   ·rw[groupsG_snoc x l [z],addTo_cons (groupsG_ne l [z] (by simp))]
theorem groups_last {l:List Slt}{y:Slt}(h:l.getLast?=some y):∃gs g,groups l=gs++[g]∧g.getLast?=some y∧g≠[]∧g.length≤l.length:=by
 obtain⟨h1,h2⟩:=groups_ok l;have hne:groups l≠[]:=fun e=>by
  rw[e] at h1;rw[←h1] at h;cases h
 obtain⟨gs,g,e⟩:∃gs g,groups l=gs++[g]:=⟨_,_,(List.dropLast_concat_getLast hne).symm⟩;have hg:g≠[]:=(h2 g (by rw[e];simp)).1;refine⟨gs,g,e,?_,hg,?_⟩
 ·rw[e] at h1;rw[←h1] at h;simp only[List.flatten_append,List.flatten_cons,List.flatten_nil,List.append_nil] at h;rw[List.getLast?_append] at h;cases hq:g.getLast? with
 |none=>exact absurd (List.getLast?_eq_none_iff.1 hq) hg
 |some z=>rw[hq] at h;exact h
 ·have:=congrArg List.length h1;rw[e] at this;simp at this;omega
theorem runs_hit {l:List Slt}{x y:Slt}(hy:l.getLast?=some y)(h:adj y x):∃(q:List (Int×Int)) (f:Int) (n:Nat),runs l=q++[(f,(n:Int))]∧runs (l++[x])=q++[(f,(n:Int)+1)]∧n≤l.length:=by
 obtain⟨gs,g,e,h1,h2,h3⟩:=groups_last hy;refine⟨gs.map run,first g,g.length,?_,?_,h3⟩
 ·unfold runs;rw[e,List.map_append];rfl
 ·unfold runs groups;rw[groupsG_snoc];have e':groupsG [] l=gs++[g]:=e;rw[e'];unfold addTo;rw[List.getLast?_concat];simp only[h1,if_pos h,List.dropLast_concat,List.map_append,List.map_cons,List.map_nil];have:first (g++[x])=first g:=by
   cases g with
  |nil=>exact absurd rfl h2
  |cons _ _=>rfl
  unfold run;rw[this,List.length_append];simp
theorem runs_miss {l:List Slt}{x:Slt}(h:∀y,l.getLast?=some y→¬adj y x):runs (l++[x])=runs l++[(x.num,1)]:=by
 unfold runs groups;rw[groupsG_snoc];cases hl:l.getLast? with
|none=>
  have:l=[]:=List.getLast?_eq_none_iff.1 hl;subst this;rfl
|some y=>
  obtain⟨gs,g,e,h1,h2,h3⟩:=groups_last hl;have e':groupsG [] l=gs++[g]:=e;rw[e'];unfold addTo;rw[List.getLast?_concat];simp only[h1,if_neg (h y hl),List.map_append,List.map_cons,List.map_nil];rfl
theorem runs_len (l:List Slt):(runs l).length≤l.length:=by
 obtain⟨h1,h2⟩:=groups_ok l;have:∀gs:List (List Slt),(∀g∈gs,Grp g)→gs.length≤gs.flatten.length:=by
  intro gs
  induction gs with
 |nil=>intro _;simp
 |cons g gs ih=>
   intro h;have a:=ih fun u hu=>h u (List.mem_cons_of_mem _ hu);have b:0 < g.length:=List.length_pos_iff.2 (h g List.mem_cons_self).1;simp only[List.length_cons,List.flatten_cons,List.length_append];omega
 have:=this _ h2;rw[h1] at this;unfold runs;simpa using this
def Apart:List (List Slt)→Prop
|[]=>True
|g::r=>(∀k y z,r.head?=some k→g.getLast?=some y→k.head?=some z→¬adj y z)∧Apart r
theorem groupsG_apart:∀(l cur:List Slt),Apart (groupsG cur l)∧(cur≠[]→∀k,(groupsG cur l).head?=some k→k.head?=cur.head?)
|[],cur=>by
  rw[groupsG];split
  ·rename_i hc;exact⟨trivial,fun h=>absurd hc h⟩
  ·refine⟨?_,fun _ k hk=>by simp at hk;rw[hk]⟩;rw[Apart];exact⟨fun k y z h=>(by cases h),trivial⟩
|x::l,cur=>by
  rw[groupsG];cases hg:cur.getLast? with
 |none=>
   have hc:cur=[]:=List.getLast?_eq_none_iff.1 hg;subst hc;exact⟨(groupsG_apart l [x]).1,fun h=>absurd rfl h⟩
 |some y=>
   have hc:cur≠[]:=fun e=>by rw[e] at hg;cases hg
   simp only;split
   ·obtain⟨a,b⟩:=groupsG_apart l (cur++[x]);refine⟨a,fun _ k hk=>?_⟩;rw[b (by simp) k hk];cases cur with
   |nil=>exact absurd rfl hc
   |cons _ _=>rfl
   ·rename_i h1
    obtain⟨a,b⟩:=groupsG_apart l [x];refine⟨⟨?_,a⟩,fun _ k hk=>by simp at hk;rw[hk]⟩;intro k y' z hk hy hz;rw[b (by simp) k hk] at hz;rw[hg] at hy;cases hy;cases hz;exact h1
theorem apart_get:∀{gs:List (List Slt)} {i:Nat} (hi:i+1 < gs.length) {y z:Slt},Apart gs→(gs[i]).getLast?=some y→(gs[i+1]).head?=some z→¬adj y z
|g::k::r,0,_,y,z,h,hy,hz=>h.1 k y z rfl hy hz
|g::r,i+1,hi,y,z,h,hy,hz=>apart_get (gs:=r) (by simpa using hi) h.2 (by simpa using hy) (by simpa using hz)
theorem fromN_at:∀{g:List Slt} {n:Int} {m:Nat} (hm:m < g.length),FromN n g→g[m].num=n+m
|x::g,n,0,_,h=>by rw[FromN] at h;simpa using h.1
|x::g,n,m+1,hm,h=>by
  rw[FromN] at h;have:=fromN_at (g:=g) (n:=n+1) (m:=m) (by simpa using hm) h.2;rw[List.getElem_cons_succ,this];omega
def pos (l:List Slt)(i:Nat):Nat:=((groups l).take i).flatten.length
theorem run_at {l:List Slt}{i:Nat}(hi:i < (groups l).length):1≤((groups l)[i]).length∧pos l (i+1)=pos l i+((groups l)[i]).length∧pos l (i+1)≤l.length ∧
  (∀m,m < ((groups l)[i]).length→∀h:pos l i+m < l.length,(l[pos l i+m]).num=first (groups l)[i]+m) ∧
  (0 < i→0 < pos l i∧∀h:pos l i - 1 < l.length,first (groups l)[i]≠(l[pos l i - 1]).num+1):=by
 obtain⟨h1,h2⟩:=groups_ok l;have hA:=(groupsG_apart l []).1;have hA:Apart (groups l):=hA;have hgr:∀j (hj:j < (groups l).length),∃A B,l=A++((groups l)[j]++B)∧A.length=pos l j:=by
  intro j hj;refine⟨((groups l).take j).flatten,((groups l).drop (j+1)).flatten,?_,rfl⟩;have e:=List.take_append_drop j (groups l);rw[List.drop_eq_getElem_cons hj] at e;have:=congrArg List.flatten e;rw[h1,List.flatten_append,List.flatten_cons] at this;exact this.symm
 have hpos:∀j (hj:j < (groups l).length),pos l (j+1)=pos l j+((groups l)[j]).length:=by
  intro j hj;unfold pos;rw[List.take_add_one,List.getElem?_eq_getElem hj,List.flatten_append,List.length_append];simp
 have hle:∀j (hj:j < (groups l).length),pos l (j+1)≤l.length:=by
  intro j hj;obtain⟨A,B,e,ha⟩:=hgr j hj;have:=congrArg List.length e;rw[hpos j hj];simp at this;omega
 have hget:∀j (hj:j < (groups l).length) m (hm:m < ((groups l)[j]).length) (h:pos l j+m < l.length),l[pos l j+m]=((groups l)[j])[m]:=by
  intro j hj m hm h;obtain⟨A,B,e,ha⟩:=hgr j hj;have e2:l[pos l j+m]?=some ((groups l)[j])[m]:=by
   generalize (groups l)[j]=g at *;generalize pos l j=p at *;rw[e,List.getElem?_append_right (by omega),List.getElem?_append_left (by omega),show p+m - A.length=m by omega,List.getElem?_eq_getElem hm]
  rw[List.getElem?_eq_getElem h] at e2;exact Option.some.inj e2
 have hg:=h2 _ (List.getElem_mem hi);refine⟨List.length_pos_iff.2 hg.1,hpos i hi,hle i hi,fun m hm h=>?_,fun h0=>?_⟩
 ·rw[hget i hi m hm h];exact fromN_at hm hg.2
 ·obtain⟨j,rfl⟩:∃j,i=j+1:=⟨i - 1,by omega⟩;have hj:j < (groups l).length:=by omega
  have hg':=h2 _ (List.getElem_mem hj);have hl:=List.length_pos_iff.2 hg'.1;have hp:=hpos j hj;refine⟨by omega,fun h=>?_⟩;have e3:l[pos l (j+1) - 1]=((groups l)[j])[((groups l)[j]).length - 1]:=by
   have hx:pos l (j+1) - 1=pos l j+(((groups l)[j]).length - 1):=by omega
   have:=hget j hj (((groups l)[j]).length - 1) (by omega) (by omega);rw[←this]
   congr 1
  rw[e3];intro he;refine apart_get (gs:=groups l) hi hA (y:=((groups l)[j])[((groups l)[j]).length - 1]) (z:=((groups l)[j+1])[0]'(List.length_pos_iff.2 hg.1)) ?_ ?_ ?_
  ·rw[List.getLast?_eq_getElem?,List.getElem?_eq_getElem (by omega)]
  ·rw[List.head?_eq_getElem?,List.getElem?_eq_getElem (List.length_pos_iff.2 hg.1)]
  ·have hz:=fromN_at (m:=0) (List.length_pos_iff.2 hg.1) hg.2;unfold adj;rw[hz,he];omega
end Tl
end
section
namespace Eng
open Go.RowKit
section
variable {P:Program}{w:World}{PK:PKT}{K:VWP}
structure Arr2 (P:Program) (T E:TypeId) (k:IntKind):Prop where
 ty:P.underlying T=some (.array 2 E)
 el:P.underlying E=some (.int k)
 sz:∃i,P.info? E=some i∧i.size=1
 gu:P.eqGuardType P.depth T=false
theorem run_eqIn_arr2' {T E:TypeId}{k:IntKind}(h:Arr2 P T E k)(d:Nat)(hd:∀(a b:Int) (w:World),(Op.equalIn d E (.int k a) (.int k b)).run P w=.ok (a==b) w)(a b c e:Int)(w:World) :
  (Op.equalIn (d+1) T (.agg #[.int k a,.int k b]) (.agg #[.int k c,.int k e])).run P w=.ok (decide (a=c)&&decide (b=e)) w:=by
 obtain⟨i,hi,hs⟩:=h.sz;have e0:List.range' 0 2 1=[0,1]:=rfl;simp only[Op.equalIn,Sem.run_bind,run_underlying h.ty,Result.andThen_ok,sizeOf,typeInfo];by_cases h1:a=c<;>by_cases h2:b=e <;>
  simp[hi,hs,e0,Std.Legacy.Range.forIn_eq_forIn_range',Std.Legacy.Range.size,part,isAgg,run_underlying h.el,hd,h1,h2]
theorem run_eqIn_arr2 {T E:TypeId}{k:IntKind}(h:Arr2 P T E k)(d:Nat)(a b c e:Int)(w:World):(Op.equalIn (d+2) T (.agg #[.int k a,.int k b]) (.agg #[.int k c,.int k e])).run P w=.ok (decide (a=c)&&decide (b=e)) w:=
 run_eqIn_arr2' h (d+1) (fun a b w=>run_equalIn_int w d E k k a b h.el) a b c e w
theorem run_eql_arr2 {T E:TypeId}{k:IntKind}(h:Arr2 P T E k){xo yo:Operand}{a b c e:Int}:(mEq .eql T xo yo (.agg #[.int k a,.int k b]) (.agg #[.int k c,.int k e])).run P w=.ok (.value (.bool (decide (a=c)&&decide (b=e)))) w:=by
 refine mv_run ?_;rw[Sem.run_bind,run_eqGuard_agg w .eql T xo yo _ _ h.gu];simp only[Result.andThen_ok];rw[run_eql_struct,run_eqIn_arr2 h 9998];rfl
end
end Eng
end
section
open Eng Go.RowKit
def rnC (p:Int×Int):List Value:=[.int .i64 p.1,.int .i64 p.2]
def rnV (p:Int×Int):Value:=.agg (rnC p).toArray
abbrev rnsC (l:List (Int×Int)):List Value:=l.flatMap rnC
abbrev rnsE (v:Value)(l:List (Int×Int)):Ent:=.recs 40 rnC 2 v l
theorem rnC_len (p:Int×Int):(rnC p).length=2:=rfl
theorem rnC_one (p:Int×Int):∀v∈rnC p,v.oneCell'=true:=by
 intro v hv;simp only[rnC,List.mem_cons,List.not_mem_nil,or_false] at hv;rcases hv with rfl|rfl<;>rfl
theorem aggRn:aggN prog 40=some 2:=by kernel_rfl
theorem szRn:(Tryz.prog.info? 40).map (·.size)=some 2:=by kernel_rfl
theorem elRn:elB prog 40 2 16=true:=by kernel_rfl
theorem szI1:(Tryz.prog.info? 3).map (·.size)=some 1:=by kernel_rfl
theorem arr2:Arr2 prog 40 3 .i64:=⟨by kernel_rfl,by kernel_rfl,⟨_,rfl,by kernel_rfl⟩,by kernel_rfl⟩
section
variable {w:World}{PK:PKT}{K:VWP}{S:Nat→Prop}{w0:World}{L:List Ent}
theorem r_ia20 {b off:Nat}{w:World}:(mIA 40 (.pointer (some ⟨b,off,none⟩)) (.int .i64 0)).run prog w=.ok (.value (.pointer (some ⟨b,off,none⟩))) w:=by kernel_rfl
theorem r_ia21 {b off:Nat}{w:World}:(mIA 40 (.pointer (some ⟨b,off,none⟩)) (.int .i64 1)).run prog w=.ok (.value (.pointer (some ⟨b,off+1,none⟩))) w:=by kernel_rfl
theorem d_ia20 {b off:Nat}:DoX prog (mIA 40 (.pointer (some ⟨b,off,none⟩)) (.int .i64 0)) w PK K=K (.pointer (some ⟨b,off,none⟩)) w:=do_eq r_ia20
theorem d_ia21 {b off:Nat}:DoX prog (mIA 40 (.pointer (some ⟨b,off,none⟩)) (.int .i64 1)) w PK K=K (.pointer (some ⟨b,off+1,none⟩)) w:=do_eq r_ia21
theorem m_rn {n:Int}{m:Int}:DoX prog (mBuild 40 #[(0,.int .i64 n),(1,.int .i64 m)]) w PK K=K (rnV (n,m)) w:=do_eq (by kernel_rfl)
theorem rns_row (i:Nat){v:Value}{l:List (Int×Int)}(ho:OwnS S w0 w L)(hi:L[i]?=some (rnsE v l)){j:Nat}(hj:j < l.length) :
  ∃g cap,v=.slice (some ⟨g,0,none⟩) l.length cap∧(∀w,(mIA 38 v (.int .i64 (j:Int))).run prog w=.ok (.value (.pointer (some ⟨g,j*2,none⟩))) w) ∧
   (∀w',(rnsE v l).is w'→(mLoad 40 (.pointer (some ⟨g,j*2,none⟩))).run prog w'=.ok (.value (rnV l[j])) w') ∧
   ∀w',(rnsE v l).is w'→∀m u,(rnC l[j])[m]?=some u→w'.cell? ⟨g,j*2+m,none⟩=some u:=
 rec_row rnC_len Tryz.underlying38 szRn aggRn i ho hi hj
theorem o_apRn (i:Nat){v:Value}{l:List (Int×Int)}{p:Int×Int}{cb:Array Bool}{PK2:PKT}(ho:OwnS S w0 w L)(hi:L[i]?=some (rnsE v l))(hb:l.length≤1000000000)
  (k:∀v' w',OwnS S w0 w' (L.set i (rnsE v' (l++[p])))→K v' w') :
  DoX prog (mBuildS 38 1 #[(0,rnV p)]) w PK fun t w=>DoX prog (mB .append #[38,38] 38 cb #[v,t]) w PK2 K:=by
 refine o_new (fun b=>.slice (some ⟨b,0,none⟩) 1 1) (rnC p) 40 (fun _=>by kernel_rfl) ho fun nb w1 ho=>?_;refine o_appendU (i+1) Tryz.underlying38 elRn (by decide) ho (by rw[List.getElem?_cons_succ];exact hi) (ho.sl 0 rfl 2 1 1 rfl) (rnC_one p) (by omega) (by omega) fun v' w2 ho=>k v' w2 ?_;have e:rnsE v' (l++[p])=.urow 40 2 v' (l.length+1) (l.flatMap rnC++rnC p):=by
  rw[rnsE,Ent.recs,List.length_append,List.flatMap_append];simp
 rw[e];exact ho.tail
theorem rns_cnt (i:Nat){g cap:Nat}{q:List (Int×Int)}{f n m:Int}{N:Nat}(ho:OwnS S w0 w L)(hi:L[i]?=some (rnsE (.slice (some ⟨g,0,none⟩) N cap) (q++[(f,n)])))
  (h:∀w',OwnS S w0 w' (L.set i (rnsE (.slice (some ⟨g,0,none⟩) N cap) (q++[(f,m)])))→K undef w') :
  DoX prog (mStore 3 (.pointer (some ⟨g,q.length*2+1,none⟩)) (.int .i64 m)) w PK K:=by
 obtain⟨g',cap',e⟩:=urow_open (ho.at_ i hi) (by simp)
 injection e with e1 e2
 subst e2;refine o_storeU i ho hi (u:=.int .i64 m) (new:=[.int .i64 m]) rfl szI1 (fun v hv=>by rcases List.mem_singleton.1 hv with rfl;rfl) (by simp;omega) fun w' ho=>h w' ?_;have hl:=Eng.flat_len rnC_len q;have e:((q++[(f,n)]).flatMap rnC).take (q.length*2+1)++[.int .i64 m]++((q++[(f,n)]).flatMap rnC).drop (q.length*2+1+[Value.int .i64 m].length)=(q++[(f,m)]).flatMap rnC:=by
  rw[List.flatMap_append,List.flatMap_append,List.flatMap_singleton,List.flatMap_singleton,List.take_append,List.take_of_length_le (by omega),List.drop_append,List.drop_eq_nil_of_le (by rw[hl];simp only[List.length_cons,List.length_nil];omega),hl,
   show q.length*2+1 - q.length*2=1 by omega,show q.length*2+1+[Value.int .i64 m].length - q.length*2=2 by simp;omega]
  simp[rnC]
 have e2:rnsE (.slice (some ⟨g,0,none⟩) (q++[(f,n)]).length cap) (q++[(f,m)])=.urow 40 2 (.slice (some ⟨g,0,none⟩) (q++[(f,n)]).length cap) (q++[(f,n)]).length ((q++[(f,m)]).flatMap rnC):=by
  rw[rnsE,Ent.recs,List.length_append,List.length_append];rfl
 rw[e2,←e];exact ho
end
def NumsI (l:List Slt):Prop:=∀x∈l,-9223372036854775808≤x.num∧x.num≤9223372036854775807
theorem take_last {l:List Slt}{j:Nat}(hj:j < l.length):(l.take (j+1)).getLast?=some l[j]:=by
 rw[List.getLast?_eq_getElem?,List.length_take,Nat.min_eq_left (by omega),Nat.add_sub_cancel,List.getElem?_take_of_lt (by omega),List.getElem?_eq_getElem hj]
theorem take_snoc {l:List Slt}{j:Nat}(hj:j < l.length):l.take (j+1)=l.take j++[l[j]]:=by
 rw[List.take_add_one,List.getElem?_eq_getElem hj];rfl
def RnsV (l:List Slt)(v:Value)(N:Mem):Prop:=SlA N.A N.w v 2 (Tl.runs l).length (rnsC (Tl.runs l))
theorem truns_ret (l:List Slt)(v:Value)(M:Mem)(w:World)(hb:l.length≤1000000)(hf:NumsI l)(hM:M.has w)(hs:SlA M.A M.w v 4 l.length (slsC l)) :
  RetM prog 14 #[v] M w (RnsV l):=by
 refine retM_of hM fun K hK=>S_table_Runs_ok ?_;unfold S_table_Runs;rw[sl_len Tryz.underlying23 (hs.now hM)];refine loop (fun vs W=>∃(i:Nat) (u:Value),vs=[u,.int .i64 i]∧i≤l.length∧OwnS M.A w W [rnsE u (Tl.runs (l.take i)),.mem M]) (fun vs _=>l.length - n1 vs) ⟨0,_,rfl,by omega,OwnS.nilU (OwnS.memS hM) 40 2⟩ ?_;rintro vs w1 ⟨i,u,rfl,hi,ho⟩ _;simp only[S_table_Runs_0,gd,rs];by_cases hlt:(i:Int) < (l.length:Int)
 case neg=>
  simp only[decide_eq_false hlt,i_f];rw[List.take_of_length_le (by omega)] at ho;obtain⟨N,hle,hrow,ho⟩:=OwnS.freezeU (L:=[.mem M]) ho 0 rfl;exact hK _ _ N _ 0 ho rfl hle hrow
 have hi':i < l.length:=by omega
 simp only[decide_eq_true hlt,i_t];refine join fun J hJ=>?_;obtain⟨g,off,hr⟩:=slot_at hs hi';obtain⟨r1,r2⟩:=hr w1 (ho.hasM 1 rfl);refine do_eq r1 |>.mpr (do_eq (run_slt r2) |>.mpr ?_);refine o_sla ho fun b5 w2 ho=>?_;refine sl_put (y:=l[i]) 0 ho rfl fun w3 ho=>?_;have ho:OwnS M.A w w3 [slE b5 l[i],rnsE u (Tl.runs (l.take i)),.mem M]:=ho;have next:∀{u':Value} {W:World},OwnS M.A w W [slE b5 l[i],rnsE u' (Tl.runs (l.take (i+1))),.mem M]→J [u'] W:=by
  intro u' W ho;refine hJ _ _ fun _=>?_;simp only[S_table_Runs_1,gd,rs];rw[wrap64_id (by omega) (by omega)];exact nextX ⟨i+1,u',rfl,by omega,ho.tail⟩ (by show l.length - Int.toNat ((i:Int)+1) < l.length - Int.toNat (i:Int);omega)
 have hsn:=take_snoc hi';have hlr:=Tl.runs_len (l.take i);rw[List.length_take,Nat.min_eq_left (by omega)] at hlr;have hfx:=hf l[i] (List.getElem_mem hi');have miss:∀{W:World},OwnS M.A w W [slE b5 l[i],rnsE u (Tl.runs (l.take i)),.mem M]→(∀y,(l.take i).getLast?=some y→¬Tl.adj y l[i])→DoX prog (mFA 49 (.pointer (some ⟨b5,0,none⟩)) 0) W (pk K) fun t49 w=>
 DoX prog (mLoad 3 t49) w (pk K) fun t50 w=>
 DoX prog (mBuild 40 #[(0,t50),(1,(.int .i64 1))]) w (pk K) fun t51 w=>
 DoX prog (mBuildS 38 1 #[(0,t51)]) w (pk K) fun t52 w=>
 DoX prog (mB .append #[38,38] 38 #[false,false] #[u,t52]) w (pk K) fun t53 w=>
 J [t53] w:=by
  intro W ho hm;rw[fa_s0',l_cell nInt5 (ho.cell 0 rfl 0 rfl),m_rn];refine o_apRn 1 ho rfl (by omega) fun u' w4 ho=>?_;rw[←Tl.runs_miss hm,←hsn] at ho;exact next ho
 refine quiet ?_;rcases Nat.eq_zero_or_pos i with hz|hz
 ·subst hz;refine q_gtr ?_;simp only[show decide ((0:Int) < ((0:Nat):Int))=false by decide,gq,gq_un];refine q_pf ?_;simp only[gq,gq_un];refine q_pf fun W hb=>?_;simp only[i_f];exact miss (ho.grow hb) (fun y hy=>by simp at hy)
 obtain⟨j,rfl⟩:∃j,i=j+1:=⟨i - 1,by omega⟩;have hj:(0:Int) < ((j+1:Nat):Int):=by omega
 have hw1:IntKind.wrap .i64 (((j+1:Nat):Int) - 1)=(j:Int):=by rw[wrap64_id (by omega) (by omega)];omega
 obtain⟨g2,off2,hr2⟩:=slot_at hs (i:=j) (by omega);have hlast:=take_last (l:=l) (j:=j) (by omega);have hfy:=hf l[j] (List.getElem_mem (by omega));refine q_gtr ?_;simp only[decide_eq_true hj,gq,gq_un];refine q_do _ (fun _=>run_fa fs0) ?_;refine q_at (.int .i64 l[j+1].num) (fun _ hb=>run_load_cell nInt5 ((ho.grow hb).cell 0 rfl 0 rfl)) ?_;refine q_do (.int .i64 (j:Int)) (fun _=>by rw[r_sub,hw1]) ?_;refine q_at _ (fun W hb=>(hr2 W ((ho.grow hb).hasM 2 rfl)).1) ?_;refine q_do _ (fun _=>run_fa fs0) ?_;refine q_at (.int .i64 l[j].num) (fun W hb=>run_snum (hr2 W ((ho.grow hb).hasM 2 rfl)).2) ?_;refine q_gtr (q_pt ?_);by_cases hgt:l[j].num < l[j+1].num
 case neg=>
  simp only[decide_eq_false hgt,gq,gq_un];refine q_pf fun W hb=>?_;simp only[i_f];refine miss (ho.grow hb) fun y hy=>?_;rw[hlast] at hy;cases hy;exact fun h=>hgt h.1
 simp only[decide_eq_true hgt,gq,gq_un];refine q_do _ (fun _=>run_fa fs0) ?_;refine q_at (.int .i64 l[j+1].num) (fun _ hb=>run_load_cell nInt5 ((ho.grow hb).cell 0 rfl 0 rfl)) ?_;refine q_do (.int .i64 (l[j+1].num - 1)) (fun _=>by rw[r_sub,wrap64_id (by omega) (by omega)]) ?_;refine q_do (.int .i64 (j:Int)) (fun _=>by rw[r_sub,hw1]) ?_;refine q_at _ (fun W hb=>(hr2 W ((ho.grow hb).hasM 2 rfl)).1) ?_;refine q_do _ (fun _=>run_fa fs0) ?_;refine q_at (.int .i64 l[j].num) (fun W hb=>run_snum (hr2 W ((ho.grow hb).hasM 2 rfl)).2) ?_;refine q_eq (q_pt ?_);by_cases heq:l[j+1].num - 1=l[j].num
 case neg=>
  simp only[decide_eq_false heq];intro W hb;simp only[i_f];refine miss (ho.grow hb) fun y hy=>?_;rw[hlast] at hy;cases hy;exact fun h=>heq h.2
 simp only[decide_eq_true heq];intro W hb;simp only[i_t];have ho:=ho.grow hb;obtain⟨q,f,n,e1,e2,hn⟩:=Tl.runs_hit hlast (x:=l[j+1]) ⟨hgt,heq⟩;rw[List.length_take,Nat.min_eq_left (by omega)] at hn;rw[e1] at ho hlr;obtain⟨g3,cap3,rfl,ia,_,cl⟩:=rns_row 1 ho rfl (j:=q.length) (by simp);have hget:(q++[(f,(n:Int))])[q.length]'(by simp)=(f,(n:Int)):=by simp
 rw[hget] at cl;have hlen:(q++[(f,(n:Int))]).length=q.length+1:=by simp
 refine quiet ?_;refine q_at (.int .i64 ((q.length+1:Nat):Int)) (fun W hb=>by rw[run_sl_len Tryz.underlying38 ((ho.grow hb).slU 1 rfl),hlen]) ?_;refine q_do (.int .i64 (q.length:Int)) (fun _=>by rw[r_sub,wrap64_id (by omega) (by omega),show ((q.length+1:Nat):Int) - 1=(q.length:Int) by omega]) ?_;refine q_do _ (fun w=>ia w) (q_do _ (fun _=>r_ia21) ?_);refine q_at (.int .i64 (n:Int)) (fun W hb=>run_load_cell nInt5 (cl _ ((ho.grow hb).at_ 1 rfl) 1 _ rfl)) ?_;refine q_do (.int .i64 ((n:Int)+1)) (fun _=>by rw[r_add,wrap64_id (by omega) (by omega)]) ?_;refine q_do _ (fun w=>ia w) (q_do _ (fun _=>r_ia21) ?_);intro W2 hb;have ho:=ho.grow hb;refine rns_cnt 1 ho rfl fun w5 ho=>?_;rw[←e2,←hsn] at ho;exact next ho
end
section
open Eng Go.RowKit
section
variable {w:World}{PK:PKT}{K:VWP}{S:Nat→Prop}{w0:World}{L:List Ent}
theorem o_seb (x:Sec){vs vk vc:Value}(hs:vs.oneCell'=true)(hk:vk.oneCell'=true)(hc:vc.oneCell'=true)(ho:OwnS S w0 w L)(k:∀b w',OwnS S w0 w' (secE b x vs vk vc::L)→K (.pointer (some ⟨b,0,none⟩)) w'):DoX prog (mBox 29 (secV x vs vk vc)) w PK K:=
 o_new (fun b=>.pointer (some ⟨b,0,none⟩)) (secC x vs vk vc) 29 (fun _=>by kernel_rfl) ho k
theorem se_tr (ho:OwnS S w0 w L)(i:Nat){b:Nat}{x:Sec}{vs vk vc:Value}(hi:L[i]?=some (secE b x vs vk vc)):DoX prog (mLoad 27 (.pointer (some ⟨b,2,none⟩))) w PK K=K (obV x.trailer vk vc) w:=
 l_at (ho.subAgg i hi 2 (obC x.trailer vk vc) rfl aggOb)
theorem se_trk (ho:OwnS S w0 w L)(i:Nat){b:Nat}{x:Sec}{vs vk vc:Value}(hi:L[i]?=some (secE b x vs vk vc)):DoX prog (mLoad 3 (.pointer (some ⟨b,2,none⟩))) w PK K=K (.int .i64 x.trailer.k) w:=l_cell nInt5 (ho.cell i hi 2 rfl)
end
theorem trefuse_ret (x:Sec)(v:Value)(M:Mem)(w:World)(hb:x.slots.length≤1000000)(hw:x.trailer.wt≤100000000)(hM:M.has w)(hv:SecV M v x) :
  Ret prog 29 #[v] w (fun r w'=>r=.int .i64 (Tl.refuse x.slots x.trailer)∧Below w.heap.size w w'):=by
 obtain⟨vs,vk,vc,rfl,hsl,hov⟩:=hv;refine ret_of fun K hK=>S_table_refuse_ok ?_;unfold S_table_refuse;refine o_seb x hsl.one hov.oneK hov.oneC (OwnS.memS hM) fun b1 w1 ho=>?_;have ho:OwnS M.A w w1 [secE b1 x vs vk vc,.mem M]:=ho;have hR:=Tl.refuse.eq_1 x.slots x.trailer;have fin:∀{W:World} {e:Int} {L:List Ent},OwnS M.A w W (L++([.mem M]++[]))→Tl.refuse x.slots x.trailer=e→K (.returned (.int .i64 e)) W:=by
  intro W e L ho h;exact hK _ _ ⟨by rw[h],(ho.front.toGives 0 rfl M.le_refl hM).below⟩
 rw[fa_se1,se_sl ho 0 rfl];refine c_below ho (R:=fun v=>v=.int .i64 (Tl.check x.slots)) (tcheck_ret x.slots vs M w1 (by omega) (ho.hasM 1 rfl) hsl) ?_;rintro _ w2 rfl ho;simp only[rs];by_cases hc:Tl.check x.slots=0
 case neg=>
  rw[if_pos hc] at hR;simp only[decide_eq_true (show Tl.check x.slots≠0 from hc),i_t];exact fin (L:=[_]) ho hR
 rw[if_neg (by simp[hc])] at hR;simp only[hc,show decide ((0:Int)≠0)=false by decide,i_f];rw[fa_se1,se_sl ho 0 rfl,sl_len Tryz.underlying23 (hsl.now (ho.hasM 1 rfl))];refine loop (fun vs' W=>∃i:Nat,vs'=[.int .i64 i]∧i≤x.slots.length∧(∀j (h:j < x.slots.length),j < i→x.slots[j].kind≠2)∧OwnS M.A w W [secE b1 x vs vk vc,.mem M]) (fun vs' _=>x.slots.length - n0 vs') ⟨0,rfl,by omega,fun j h hj=>by omega,ho⟩ ?_;clear ho;rintro vs' w3 ⟨i,rfl,hi,hall,ho⟩ _;simp only[S_table_refuse_0,gd,rs];by_cases hlt:(i:Int) < (x.slots.length:Int)
 case pos=>
  have hi':i < x.slots.length:=by omega
  simp only[decide_eq_true hlt,i_t];obtain⟨g,off,hr⟩:=slot_at hsl hi';obtain⟨r1,r2⟩:=hr w3 (ho.hasM 1 rfl);refine do_eq r1 |>.mpr (do_eq (run_slt r2) |>.mpr ?_);refine o_sla ho fun b5 w4 ho=>?_;refine sl_put (y:=x.slots[i]) 0 ho rfl fun w5 ho=>?_;have ho:OwnS M.A w w5 [slE b5 x.slots[i],secE b1 x vs vk vc,.mem M]:=ho;rw[fa_s1',l_cell nInt5 (ho.cell 0 rfl 1 rfl)];simp only[rs];by_cases hk:x.slots[i].kind=2
  ·simp only[decide_eq_true hk,i_t];refine fin (L:=[_,_]) ho ?_;rw[hR,if_pos (List.any_eq_true.2 ⟨_,List.getElem_mem hi',decide_eq_true hk⟩)]
  ·simp only[decide_eq_false hk,i_f];rw[wrap64_id (by omega) (by omega)];refine nextX ⟨i+1,rfl,by omega,fun j h hj=>?_,ho.tail⟩ (by show x.slots.length - Int.toNat ((i:Int)+1) < x.slots.length - Int.toNat (i:Int);omega);rcases Nat.lt_or_ge j i with h1|h1
   ·exact hall j h h1
   ·have:j=i:=by omega
    subst this;exact hk
 simp only[decide_eq_false hlt,i_f];have hany:x.slots.any (fun y=>decide (y.kind=2))=false:=by
  rw[List.any_eq_false];intro y hy;obtain⟨j,hj,rfl⟩:=List.getElem_of_mem hy;simpa using hall j hj (by omega)
 rw[if_neg (by rw[hany];simp)] at hR;rw[fa_se1,se_sl ho 0 rfl,sl_len Tryz.underlying23 (hsl.now (ho.hasM 1 rfl))];refine loop (fun vs' W=>∃i:Nat,vs'=[.int .i64 i]∧i≤x.slots.length∧(∀j (h:j < x.slots.length),j < i→¬(x.slots[j].num=0∧(x.slots[j].kind≠0∨x.slots[j].b≠65535)))∧OwnS M.A w W [secE b1 x vs vk vc,.mem M]) (fun vs' _=>x.slots.length - n0 vs') ⟨0,rfl,by omega,fun j h hj=>by omega,ho⟩ ?_;clear ho;rintro vs' w3 ⟨i,rfl,hi,hall,ho⟩ _;simp only[S_table_refuse_1,gd,rs];by_cases hlt:(i:Int) < (x.slots.length:Int)
 case pos=>
  have hi':i < x.slots.length:=by omega
  simp only[decide_eq_true hlt,i_t];obtain⟨g,off,hr⟩:=slot_at hsl hi';obtain⟨r1,r2⟩:=hr w3 (ho.hasM 1 rfl);refine do_eq r1 |>.mpr (do_eq (run_slt r2) |>.mpr ?_);refine o_sla ho fun b5 w4 ho=>?_;refine sl_put (y:=x.slots[i]) 0 ho rfl fun w5 ho=>?_;have ho:OwnS M.A w w5 [slE b5 x.slots[i],secE b1 x vs vk vc,.mem M]:=ho;have hget:x.slots[i]∈x.slots:=List.getElem_mem hi';have next:¬(x.slots[i].num=0∧(x.slots[i].kind≠0∨x.slots[i].b≠65535))→NextX (fun vs' W=>∃i:Nat,vs'=[.int .i64 i]∧i≤x.slots.length∧(∀j (h:j < x.slots.length),j < i→¬(x.slots[j].num=0∧(x.slots[j].kind≠0∨x.slots[j].b≠65535)))∧OwnS M.A w W [secE b1 x vs vk vc,.mem M]) (fun vs' _=>x.slots.length - n0 vs') [.int .i64 i] w3 [.int .i64 ((i:Int)+1)] w5:=by
   intro hk;refine nextX ⟨i+1,rfl,by omega,fun j h hj=>?_,ho.tail⟩ (by show x.slots.length - Int.toNat ((i:Int)+1) < x.slots.length - Int.toNat (i:Int);omega);rcases Nat.lt_or_ge j i with h1|h1
   ·exact hall j h h1
   ·have:j=i:=by omega
    subst this;exact hk
  have bad:(x.slots[i].num=0∧(x.slots[i].kind≠0∨x.slots[i].b≠65535))→K (.returned (.int .i64 1)) w5:=by
   intro hk;refine fin (L:=[_,_]) ho ?_;rw[hR,if_pos (List.any_eq_true.2 ⟨_,hget,by simpa using hk⟩)]
  have l0:∀{PK:PKT} {K:VWP},DoX prog (mLoad 3 (.pointer (some ⟨b5,0,none⟩))) w5 PK K=K (.int .i64 x.slots[i].num) w5:=l_cell nInt5 (ho.cell 0 rfl 0 rfl);have l1:∀{PK:PKT} {K:VWP},DoX prog (mLoad 3 (.pointer (some ⟨b5,0+1,none⟩))) w5 PK K=K (.int .i64 x.slots[i].kind) w5:=l_cell nInt5 (ho.cell 0 rfl 1 rfl);have l3:∀{PK:PKT} {K:VWP},DoX prog (mLoad 3 (.pointer (some ⟨b5,0+3,none⟩))) w5 PK K=K (.int .i64 x.slots[i].b) w5:=l_cell nInt5 (ho.cell 0 rfl 3 rfl);by_cases h0:x.slots[i].num=0
  case neg=>
   simp only[rs,fa_s0',l0,decide_eq_false h0,g_un];rw[wrap64_id (by omega) (by omega)];exact next fun h=>h0 h.1
  by_cases h1:x.slots[i].kind=0
  case neg=>
   have h1':x.slots[i].kind≠0:=h1;simp only[rs,fa_s0',l0,decide_eq_true h0,fa_s1',l1,decide_eq_true h1',g_un];exact bad ⟨h0,.inl h1⟩
  by_cases h3:x.slots[i].b=65535
  ·simp only[rs,fa_s0',l0,decide_eq_true h0,fa_s1',l1,h1,fa_s3',l3,h3,show decide ((0:Int)≠0)=false by decide,show decide ((65535:Int)≠65535)=false by decide,g_un];rw[wrap64_id (by omega) (by omega)];exact next fun h=>by rcases h.2 with h|h<;>contradiction
  ·have h3':x.slots[i].b≠65535:=h3;simp only[rs,fa_s0',l0,decide_eq_true h0,fa_s1',l1,h1,fa_s3',l3,decide_eq_true h3',show decide ((0:Int)≠0)=false by decide,g_un];exact bad ⟨h0,.inr h3⟩
 simp only[decide_eq_false hlt,i_f];have hany:x.slots.any (fun x=>decide (x.num=0)&&(decide (x.kind≠0)||decide (x.b≠65535)))=false:=by
  rw[List.any_eq_false];intro y hy;obtain⟨j,hj,rfl⟩:=List.getElem_of_mem hy;have:=hall j hj (by omega);simpa using this
 rw[if_neg (by rw[hany];simp)] at hR;rw[fa_se2,se_tr ho 0 rfl];refine c_below ho (R:=fun v=>v=.int .i64 (Vl.check 1 x.trailer)) (vCheck_ret x.trailer _ w3 (OV.inw (ho.hasM 1 rfl) hov) (by omega)) ?_;rintro _ w4 rfl ho;simp only[rs];by_cases hc2:Vl.check 1 x.trailer=0
 case neg=>
  rw[if_pos hc2] at hR;simp only[decide_eq_true (show Vl.check 1 x.trailer≠0 from hc2),i_t];exact fin (L:=[_]) ho hR
 rw[if_neg (by simp[hc2])] at hR;simp only[hc2,show decide ((0:Int)≠0)=false by decide,i_f];rw[fa_se2,fa_o0,se_trk ho 0 rfl];simp only[rs];by_cases hk:x.trailer.k=7
 ·rw[if_neg (by simp[hk])] at hR;simp only[hk,show decide ((7:Int)≠7)=false by decide,i_f];exact fin (L:=[_]) ho hR
 ·rw[if_pos hk] at hR;simp only[decide_eq_true (show x.trailer.k≠7 from hk),i_t];exact fin (L:=[_]) ho hR
theorem sla_from {A:Nat→Prop}{w:World}{a:Option Addr}{n cap sz lo:Nat}{cs:List Value}(h:SlA A w (.slice a n cap) sz n cs)(hl:lo≤n):SlA A w (.slice (subA a lo cap sz) (n - lo) (cap - lo)) sz (n - lo) (cs.drop (lo*sz)):=by
 obtain⟨⟨h1,a',cap',e,h2,h3⟩,h4,h5⟩:=h;cases e;have hcap:=h5 _ _ _ rfl;refine⟨⟨by rw[List.length_drop,h1,←Nat.sub_mul],_,_,rfl,fun hn=>?_,fun p hp=>?_⟩,fun p l c e hn=>?_,fun p l c e=>by cases e;omega⟩
 ·unfold subA at hn;split at hn
  ·omega
  ·cases a with
  |none=>have:=h2 rfl;omega
  |some p=>cases hn
 ·unfold subA at hp;split at hp
  ·rename_i hc
   refine⟨fun h=>by omega,fun j u hj=>?_⟩;have hn:n - lo=0:=by omega
   have:=(List.getElem?_eq_some_iff.1 hj).1;rw[List.length_drop,h1,←Nat.sub_mul,hn] at this;omega
  ·rename_i hc
   cases a with
  |none=>cases hp
  |some p'=>
    simp only[Option.map_some,Option.some.injEq] at hp;subst hp;obtain⟨h6,h7⟩:=h3 p' rfl;refine⟨fun h=>?_,fun j u hj=>?_⟩
    ·have:=h6 (by omega);obtain⟨b,off,spot⟩:=p';simp only at this;subst this;rw[add_none]
    ·rw[List.getElem?_drop] at hj;have hn:0 < n:=by
      rcases Nat.eq_zero_or_pos n with h|h
      ·subst h;have:=(List.getElem?_eq_some_iff.1 hj).1;omega
      ·exact h
     have:=h6 hn;obtain⟨b,off,spot⟩:=p';simp only at this;subst this;rw[add_none];have:=h7 _ u hj
     rwa [←Nat.add_assoc] at this
 ·unfold subA at e;split at e
  ·omega
  ·cases a with
  |none=>injection e with e;cases e
  |some p'=>
    simp only[Option.map_some] at e
    injection e with e
    injection e with e
    have:=h4 p' n cap rfl (by omega);obtain⟨b,off,spot⟩:=p';have h6:=(h3 _ rfl).1 (by omega);simp only at h6;subst h6;rw[add_none] at e;subst e;exact this
theorem sla_upto {A:Nat→Prop}{w:World}{a:Option Addr}{n cap sz m:Nat}{cs:List Value}(h:SlA A w (.slice a n cap) sz n cs)(hm:m≤n):SlA A w (.slice (subA a 0 cap sz) m cap) sz m (cs.take (m*sz)):=by
 obtain⟨⟨h1,a',cap',e,h2,h3⟩,h4,h5⟩:=h;cases e;have hcap:=h5 _ _ _ rfl;have hle:m*sz≤n*sz:=Nat.mul_le_mul_right _ hm;have hsub:∀p,subA a 0 cap sz=some p→∃p',a=some p'∧(0 < n→p'.spot=none→p=p')∧p.block=p'.block:=by
  intro p hp;unfold subA at hp;split at hp
  ·exact⟨p,hp,fun _ _=>rfl,rfl⟩
  ·cases a with
  |none=>cases hp
  |some p'=>
    simp only[Option.map_some,Option.some.injEq] at hp;subst hp;obtain⟨b,off,spot⟩:=p';refine⟨_,rfl,fun _ h=>?_,by unfold Addr.add;split<;>rfl⟩;simp only at h;subst h;rw[add_none,Nat.zero_mul,Nat.add_zero]
 refine⟨⟨by rw[List.length_take,h1,Nat.min_eq_left hle],_,_,rfl,fun hn=>?_,fun p hp=>?_⟩,fun p l c e hn=>?_,fun p l c e=>by cases e;omega⟩
 ·unfold subA at hn;split at hn
  ·have:=h2 hn;omega
  ·cases a with
  |none=>have:=h2 rfl;omega
  |some p=>cases hn
 ·obtain⟨p',rfl,h6,h7⟩:=hsub p hp;obtain⟨h8,h9⟩:=h3 p' rfl;refine⟨fun h=>?_,fun j u hj=>?_⟩
  ·rw[h6 (by omega) (h8 (by omega))];exact h8 (by omega)
  ·have hjl:=(List.getElem?_eq_some_iff.1 hj).1;have hn:0 < n:=by
    rcases Nat.eq_zero_or_pos n with h|h
    ·subst h;rw[List.length_take,h1] at hjl;omega
    ·exact h
   rw[h6 hn (h8 hn)];rw[List.length_take] at hjl;rw[List.getElem?_take_of_lt (by omega)] at hj;exact h9 j u hj
 ·injection e with e
  obtain⟨p',rfl,h6,h7⟩:=hsub p e;rw[h7];exact h4 p' n cap rfl (by omega)
end
section
open Go
namespace Tl
theorem cat_app (a b:List Pc):cat (a++b)=cat a++cat b:=by simp[cat]
theorem cat_slot (x:Slt):cat (slotPc x)=Pl.pad x.a 10++[32]++Pl.pad x.b 5++[32]++kindW x++[32,10]:=by simp[cat,slotPc,sp,spnl]
theorem cat_slots (l:List Slt):cat (l.flatMap slotPc)=l.flatMap fun x=>cat (slotPc x):=by
 induction l with
|nil=>rfl
|cons x l ih=>rw[List.flatMap_cons,List.flatMap_cons,cat_app,ih]
theorem cat_group (g:List Slt):cat (groupPc g)=Lib.itoa (first g)++[32]++Lib.itoa g.length++[10]++g.flatMap fun x=>cat (slotPc x):=by
 rw[groupPc,cat_app,cat_slots];simp[cat,sp,nl]
def upto (l:List Slt)(i:Nat):List UInt8:=xrefW++[10]++((groups l).take i).flatMap fun g=>cat (groupPc g)
theorem cat_groups (gs:List (List Slt)):cat (gs.flatMap groupPc)=gs.flatMap fun g=>cat (groupPc g):=by
 induction gs with
|nil=>rfl
|cons g gs ih=>rw[List.flatMap_cons,List.flatMap_cons,cat_app,ih]
theorem upto_succ {l:List Slt}{i:Nat}(hi:i < (groups l).length):upto l (i+1)=upto l i++cat (groupPc (groups l)[i]):=by
 unfold upto;rw[List.take_add_one,List.getElem?_eq_getElem hi,List.flatMap_append];simp
theorem upto_end (l:List Slt):cat (headPc l)=upto l (groups l).length++trailW++[10]:=by
 unfold upto headPc;rw[cat_app,cat_app,cat_groups,List.take_length];simp[cat,nl]
theorem text_ok {l:List Slt}{o:Ob}(h:refuse l o=0):text l o=(upto l (groups l).length++(trailW++[10]++Pl.join (Wr.parts o)++[10]),0):=by
 rw[text,if_neg (by simp[h]),upto_end];simp[nl]
theorem pad_le {n:Int}(k:Int)(h0:0≤n)(h1:n≤2147483647):(Pl.pad n k).length≤20:=by
 have:=itoa_len h0 h1;unfold Pl.pad;split
 ·simp
 ·rename_i h
  simp only[not_or] at h;simp only[List.length_append,List.length_replicate];omega
theorem slot_le {x:Slt}(h:OkS x):(cat (slotPc x)).length≤50:=by
 rw[cat_slot];have h1:=pad_le 10 h.a0 h.a1;have h2:=pad_le 5 h.b0 (by have:=h.b1;omega);have h3:(kindW x).length=1:=by unfold kindW;split<;>rfl
 simp only[List.length_append,List.length_cons,List.length_nil,h3];omega
theorem slots_le:∀{g:List Slt},(∀x∈g,OkS x)→(g.flatMap fun x=>cat (slotPc x)).length≤50*g.length
|[],_=>by simp
|x::g,h=>by
  have:=slots_le (g:=g) fun y hy=>h y (List.mem_cons_of_mem _ hy);have:=slot_le (h x List.mem_cons_self);rw[List.flatMap_cons,List.length_append,List.length_cons];omega
theorem flat_groups {l:List Slt}{i:Nat}(hi:i < (groups l).length):∃A B,l=A++((groups l)[i]++B)∧A.length=pos l i:=by
 refine⟨((groups l).take i).flatten,((groups l).drop (i+1)).flatten,?_,rfl⟩;have e:=List.take_append_drop i (groups l);rw[List.drop_eq_getElem_cons hi] at e;have:=congrArg List.flatten e;rw[(groups_ok l).1,List.flatten_append,List.flatten_cons] at this;exact this.symm
theorem group_eq {l:List Slt}{i:Nat}(hi:i < (groups l).length):(groups l)[i]=(l.drop (pos l i)).take ((groups l)[i]).length:=by
 obtain⟨A,B,e,ha⟩:=flat_groups hi;generalize (groups l)[i]=g at *;generalize pos l i=p at *;subst ha;rw[e,List.drop_left,List.take_left]
theorem group_drop {l:List Slt}{i:Nat}(hi:i < (groups l).length):l.drop (pos l (i+1))=(l.drop (pos l i)).drop ((groups l)[i]).length:=by
 rw[(run_at hi).2.1,List.drop_drop]
theorem group_ok {l:List Slt}{i:Nat}(hi:i < (groups l).length)(hok:∀x∈l,OkS x):∀x∈(groups l)[i],OkS x:=by
 intro x hx;obtain⟨A,B,e,_⟩:=flat_groups hi;refine hok x ?_;rw[e];exact List.mem_append_right _ (List.mem_append_left _ hx)
theorem upto_le {l:List Slt}(hok:∀x∈l,OkS x):∀i,i≤(groups l).length→(upto l i).length≤10+100*pos l i
|0,_=>by simp[upto,xrefW,pos]
|i+1,hi=>by
  have ih:=upto_le hok i (by omega);obtain⟨r1,r2,r3,_⟩:=run_at (l:=l) (i:=i) (by omega);have hg:Grp (groups l)[i]:=(groups_ok l).2 _ (List.getElem_mem _);have hb:=grp_bounds hg (group_ok (by omega) hok);have h1:=slots_le (group_ok (i:=i) (by omega) hok);have h2:=itoa_len hb.1 (by omega);have h3:=itoa_len (n:=((groups l)[i]).length) (by omega) (by omega);rw[upto_succ (by omega),cat_group];simp only[List.length_append,List.length_cons,List.length_nil];omega
end Tl
end
section
open Eng Go.RowKit
theorem rn_at {M:Mem}{v:Value}{l:List (Int×Int)}(hs:SlA M.A M.w v 2 l.length (rnsC l)){i:Nat}(hi:i < l.length) :
  ∃(b off:Nat),∀W,M.has W→(mIA 38 v (.int .i64 (i:Int))).run prog W=.ok (.value (.pointer (some ⟨b,off,none⟩))) W∧∀j u,(rnC l[i])[j]?=some u→W.cell? ⟨b,off+j,none⟩=some u:=by
 obtain⟨b,off,cap,rfl,_⟩:=sl_open hs.1 (by omega);refine⟨b,off+i*2,fun W hW=>⟨?_,fun j u hj=>?_⟩⟩
 ·have:=run_ia (P:=prog) (T:=38) (b:=b) (off:=off) (cap:=cap) (n:=l.length) (k:=.i64) (i:=(i:Int)) (w:=W) Tryz.underlying38 szRn (by omega) (by omega);rw[Int.toNat_natCast] at this;exact this
 ·have:=Sl.cellAt (hs.now hW) (i*2+j) u (Eng.flat_get rnC_len hi hj)
  rwa [←Nat.add_assoc] at this
theorem run_rn {W:World}{b off:Nat}{p:Int×Int}(h:∀j u,(rnC p)[j]?=some u→W.cell? ⟨b,off+j,none⟩=some u):(mLoad 40 (.pointer (some ⟨b,off,none⟩))).run prog W=.ok (.value (rnV p)) W:=
 run_load_at (AtV.agg aggRn (cs:=rnC p) rfl h)
abbrev rnE (b:Nat)(p:Int×Int):Ent:=.cells b (rnC p) 40
section
variable {w:World}{PK:PKT}{K:VWP}{S:Nat→Prop}{w0:World}{L:List Ent}
theorem o_rna (ho:OwnS S w0 w L)(k:∀b w',OwnS S w0 w' (rnE b (0,0)::L)→K (.pointer (some ⟨b,0,none⟩)) w'):DoX prog (mAlloc 40) w PK K:=
 o_new (fun b=>.pointer (some ⟨b,0,none⟩)) (rnC (0,0)) 40 (fun _=>by kernel_rfl) ho k
theorem rn_put (i:Nat){b:Nat}{p q:Int×Int}(ho:OwnS S w0 w L)(hi:L[i]?=some (rnE b p))(k:∀w',OwnS S w0 w' (L.set i (rnE b q))→K undef w') :
  DoX prog (mStore 40 (.pointer (some ⟨b,0,none⟩)) (rnV q)) w PK K:=o_put i ho hi (new:=rnC q) szRn (rnC_one q) rfl k
end
theorem Tl.runs_get {l:List Slt}{i:Nat}(hi:i < (Tl.groups l).length):(Tl.runs l)[i]'(by unfold Tl.runs;simpa using hi)=(Tl.first (Tl.groups l)[i],(((Tl.groups l)[i]).length:Int)):=by
 unfold Tl.runs;rw[List.getElem_map];rfl
theorem Tl.runs_length (l:List Slt):(Tl.runs l).length=(Tl.groups l).length:=by unfold Tl.runs;simp
theorem pInt_ok {n:Int}(h0:0≤n)(h1:n≤2147483647):Pl.pInt n=(Lib.itoa n,0):=by
 unfold Pl.pInt;rw[if_pos (by omega)]
theorem ttext_2 {b7 b16:Nat}{M0:Mem}{bv:Value}{w W:World}{acc:List UInt8}{x:Slt}{j:Nat}{L:List Ent}{K:Ending→World→Prop}{N2:List Value→World→Prop}(hx:Tl.OkS x)(tb:∀(W:World) (e1 e2:Ent),OwnS M0.A w W (e1::e2::L)→Tb W)(hl:acc.length≤1000000000000)(hj:j≤1000000000)
  (ho:OwnS M0.A w W (slE b16 x::Bld b7 bv acc::L)) (hN:∀(W':World) (bv':Value),OwnS M0.A w W' (slE b16 x::Bld b7 bv' (acc++Tl.cat (Tl.slotPc x))::L)→N2 [.int .i64 ((j:Int)+1)] W') :
  S_table_Text_2 (.pointer (some ⟨b7,0,none⟩)) (.pointer (some ⟨b16,0,none⟩)) (.string ⟨(Tl.kindW x).toArray⟩) (.int .i64 (j:Int)) W N2 K:=by
 unfold S_table_Text_2;have hp1:=Tl.pad_le 10 hx.a0 hx.a1;have hp2:=Tl.pad_le 5 hx.b0 (by have:=hx.b1;omega);have hkw:(Tl.kindW x).length=1:=by unfold Tl.kindW;split<;>rfl
 have ha0:=hx.a0;have ha1:=hx.a1;have hb0:=hx.b0;have hb1:=hx.b1;have ho:=ho.drew;refine⟨fun W=>(slE b16 x).is W,ho.at_ 0 rfl,?_⟩;refine hd_pure _ (fun _=>run_fa fs2) (hd_do _ (fun W h=>run_load_cell nInt5 (cells_cell (T:=49) (cs:=slC x) (i:=2) h rfl)) ?_);refine hd_pure _ (fun _=>run_fa fs3) (hd_do _ (fun W h=>run_load_cell nInt5 (cells_cell (T:=49) (cs:=slC x) (i:=3) h rfl)) ?_);refine c_ret (ppad_ret x.a 10 (by omega) (by omega) (by omega) (by omega) _ (tb _ _ _ ho)) ?_;rintro _ w1 ⟨rfl,hb⟩;have ho:=ho.grow hb;refine⟨ho.at_ 0 rfl,?_⟩;refine hd_pure _ (fun _=>run_s_add (b:=[32]) (by simp only[List.length_cons,List.length_nil];omega)) ?_;refine c_ret (ppad_ret x.b 5 (by omega) (by omega) (by omega) (by omega) _ (tb _ _ _ ho)) ?_;rintro _ w2 ⟨rfl,hb⟩;have ho:=ho.grow hb;refine⟨ho.at_ 0 rfl,?_⟩;refine hd_pure _ (fun _=>run_s_add (by simp only[List.length_append,List.length_cons,List.length_nil];omega)) ?_;refine hd_pure _ (fun _=>run_s_add (b:=[32]) (by simp only[List.length_append,List.length_cons,List.length_nil];omega)) ?_;refine hd_pure _ (fun _=>run_s_add (by simp only[List.length_append,List.length_cons,List.length_nil,hkw];omega)) ?_;refine hd_pure _ (fun _=>run_s_add (b:=[32,10]) (by simp only[List.length_append,List.length_cons,List.length_nil,hkw];omega)) ?_;refine c_ret (writeString_ret (ho.at_ 1 rfl) (by simp only[List.length_append,List.length_cons,List.length_nil,hkw];omega)) ?_;rintro _ w3 ⟨e',⟨⟨_,rfl⟩,v',rfl⟩,htn⟩;have ho:=ho.turn 1 rfl htn;refine⟨ho.at_ 0 rfl,?_⟩;simp only[rs];rw[wrap64_id (by omega) (by omega)];rw[←Tl.cat_slot] at ho;exact hN w3 v' ho
theorem ttext_ret (x:Sec)(v:Value)(M:Mem)(w:World)(ht:Tb w)(hb:x.slots.length≤1000000)(hf:NumsI x.slots)(hw:x.trailer.wt≤100000000)(hM:M.has w)(hv:SecV M v x) :
  Ret prog 12 #[v] w (fun r w'=>r=txtV (Tl.text x.slots x.trailer)∧Below w.heap.size w w'):=by
 have hv0:=hv;obtain⟨vs,vk,vc,rfl,hsl,hov⟩:=hv;refine ret_of fun K hK=>S_table_Text_ok ?_;unfold S_table_Text;refine o_seb x hsl.one hov.oneK hov.oneC (OwnS.memS hM) fun b1 w1 ho=>?_;have ho:OwnS M.A w w1 [secE b1 x vs vk vc,.mem M]:=ho;rw[se_v ho 0 rfl];refine c_below ho (R:=fun v=>v=.int .i64 (Tl.refuse x.slots x.trailer)) (trefuse_ret x _ M w1 hb hw (ho.hasM 1 rfl) hv0) ?_;rintro _ w2 rfl ho;simp only[rs];by_cases hr:Tl.refuse x.slots x.trailer=0
 case neg=>
  simp only[decide_eq_true (show Tl.refuse x.slots x.trailer≠0 from hr),i_t];refine hK _ _ ⟨?_,(ho.toGives 1 rfl M.le_refl hM).below⟩;rw[Tl.text,if_pos hr];rfl
 have hT:=Tl.text_ok hr;obtain⟨hok,hrise,hc1,hk7⟩:=Tl.refuse_ok hr;have hwt:Wr.text x.trailer=(Pl.join (Wr.parts x.trailer),0):=by
  unfold Wr.text;rw[if_neg (by simp[hc1]),if_neg (by omega)]
 have hjl:(Pl.join (Wr.parts x.trailer)).length≤40*x.trailer.wt:=by
  have:=Wr.text_len x.trailer
  rwa [hwt] at this
 simp only[hr,show decide ((0:Int)≠0)=false by decide,i_f];rw[fa_se2,se_tr ho 0 rfl];refine c_below ho (R:=fun v=>v=txtV (Wr.text x.trailer)) (wtext7_ret x.trailer _ w2 (ht.mono (ho.toGives 1 rfl M.le_refl hM).below) (OV.inw (ho.hasM 1 rfl) hov) hw) ?_;rintro _ w3 rfl ho;rw[hwt];simp only[txtV,ex,rs,show decide ((0:Int)≠0)=false by decide];refine o_new (fun b=>.pointer (some ⟨b,0,none⟩)) [.pointer none,.slice none 0 0] 73 (fun _=>by kernel_rfl) ho fun b7 w4 ho=>?_;have hB0:∃v0,OwnS M.A w w4 [Bld b7 v0 [],secE b1 x vs vk vc,.mem M]:=⟨_,OwnS.closeB (l:=[]) (.inl rfl) roomy_nil (ho.nilRow 5 1).swap⟩;obtain⟨v0,ho⟩:=hB0;refine c_turn 0 ho rfl (writeString_ret (s:=[120,114,101,102,10]) (ho.at_ 0 rfl) (by simp)) ?_;rintro _ _ w5 ⟨_,v5,rfl⟩ ho;have hu:[]++[120,114,101,102,10]=Tl.upto x.slots 0:=by simp[Tl.upto,Tl.xrefW]
 rw[hu] at ho;have ho:OwnS M.A w w5 [Bld b7 v5 (Tl.upto x.slots 0),secE b1 x vs vk vc,.mem M]:=ho;rw[fa_se1,se_sl ho 1 rfl];refine c_mem ho 2 rfl (truns_ret x.slots vs M w5 hb hf (ho.hasM 2 rfl) hsl) ?_;rintro rv N w6 hle hrn ho;have ho:OwnS M.A w w6 [Bld b7 v5 (Tl.upto x.slots 0),secE b1 x vs vk vc,.mem N]:=ho;have hsl:=hsl.le hle;have tb:∀{W:World} {L:List Ent} (i:Nat),OwnS M.A w W L→L[i]?=some (.mem N)→Tb W:=fun i ho hi=>ht.mono (ho.toGives i hi hle hM).below;rw[sl_len Tryz.underlying38 (hrn.now (ho.hasM 2 rfl)),Tl.runs_length];have hpl:∀i,i≤(Tl.groups x.slots).length→Tl.pos x.slots i≤x.slots.length:=by
  intro i hi;rcases Nat.eq_zero_or_pos i with h|h
  ·subst h;simp[Tl.pos]
  ·obtain⟨j,rfl⟩:∃j,i=j+1:=⟨i - 1,by omega⟩;exact (Tl.run_at (l:=x.slots) (i:=j) (by omega)).2.2.1
 have hgl:(Tl.groups x.slots).length≤x.slots.length:=by
  have:=Tl.runs_len x.slots
  rwa [Tl.runs_length] at this
 refine loop (fun vs' W=>∃(i:Nat) (lv bv:Value),vs'=[lv,.int .i64 i]∧i≤(Tl.groups x.slots).length∧SlA N.A N.w lv 4 (x.slots.drop (Tl.pos x.slots i)).length (slsC (x.slots.drop (Tl.pos x.slots i)))∧OwnS M.A w W [Bld b7 bv (Tl.upto x.slots i),secE b1 x vs vk vc,.mem N])
  (fun vs' _=>(Tl.groups x.slots).length - n1 vs') ⟨0,vs,v5,rfl,by omega,by simpa[Tl.pos] using hsl,ho⟩ ?_
 clear ho;rintro vs' w7 ⟨i,lv,bv,rfl,hi,hlv,ho⟩ _;have hul:=Tl.upto_le hok i hi;have hpi:=hpl i hi;simp only[S_table_Text_0,gd,rs];by_cases hlt:(i:Int) < ((Tl.groups x.slots).length:Int)
 case neg=>
  have hi':i=(Tl.groups x.slots).length:=by omega
  subst hi';simp only[decide_eq_false hlt,i_f];have e1:∀{PK:PKT} {K:VWP} {T:TypeId} {W:World},DoX prog (mBin .add T (.string ⟨#[116,114,97,105,108,101,114,10]⟩) (.string ⟨(Pl.join (Wr.parts x.trailer)).toArray⟩)) W PK K=K (.string ⟨([116,114,97,105,108,101,114,10]++Pl.join (Wr.parts x.trailer)).toArray⟩) W:=
   s_add (a:=[116,114,97,105,108,101,114,10]) (by simp only[List.length_cons,List.length_nil];omega)
  have e2:∀{PK:PKT} {K:VWP} {T:TypeId} {W:World},DoX prog (mBin .add T (.string ⟨([116,114,97,105,108,101,114,10]++Pl.join (Wr.parts x.trailer)).toArray⟩) (.string ⟨#[10]⟩)) W PK K=K (.string ⟨([116,114,97,105,108,101,114,10]++Pl.join (Wr.parts x.trailer)++[10]).toArray⟩) W:=
   s_add (b:=[10]) (by simp only[List.length_append,List.length_cons,List.length_nil];omega)
  rw[e1,e2];refine c_turn 0 ho rfl (writeString_ret (ho.at_ 0 rfl) (by simp only[List.length_append,List.length_cons,List.length_nil];omega)) ?_;rintro _ _ w8 ⟨_,v8,rfl⟩ ho;have e3:([116,114,97,105,108,101,114,10]++Pl.join (Wr.parts x.trailer)++[10]:List UInt8)=Tl.trailW++[10]++Pl.join (Wr.parts x.trailer)++[10]:=by simp[Tl.trailW]
  rw[e3] at ho;refine c_turn 0 ho rfl (bldString_ret (ho.at_ 0 rfl)) ?_;rintro _ _ w9 ⟨rfl,rfl⟩ ho;refine hK _ _ ⟨?_,(ho.toGives 2 rfl hle hM).below⟩;rw[hT];rfl
 have hi':i < (Tl.groups x.slots).length:=by omega
 simp only[decide_eq_true hlt,i_t];obtain⟨g0,off0,hr0⟩:=rn_at hrn (i:=i) (by rw[Tl.runs_length];exact hi');rw[Tl.runs_get hi'] at hr0;obtain⟨hg1,hpos,hple,_,_⟩:=Tl.run_at hi';have hgrp:=(Tl.groups_ok x.slots).2 _ (List.getElem_mem hi');have hgok:=Tl.group_ok hi' hok;have hbd:=Tl.grp_bounds hgrp hgok;have hge:=Tl.group_eq hi';have hgd:=Tl.group_drop hi';have hus:=Tl.upto_succ hi';rw[Tl.cat_group] at hus;generalize hgg:(Tl.groups x.slots)[i]=g at *;obtain⟨r1,r2⟩:=hr0 w7 (ho.hasM 2 rfl);refine do_eq r1 |>.mpr (do_eq (run_rn r2) |>.mpr ?_);refine o_rna ho fun b10 w8 ho=>?_;refine rn_put (q:=(Tl.first g,(g.length:Int))) 0 ho rfl fun w9 ho=>?_;have ho:OwnS M.A w w9 [rnE b10 (Tl.first g,(g.length:Int)),Bld b7 bv (Tl.upto x.slots i),secE b1 x vs vk vc,.mem N]:=ho;rw[d_ia20,l_cell nInt5 (ho.cell 0 rfl 0 rfl)];refine c_below ho (R:=fun v=>v=.tuple #[.string ⟨(Pl.pInt (Tl.first g)).1.toArray⟩,.int .i64 (Pl.pInt (Tl.first g)).2]) (pint_ret _ w9 (tb 3 ho rfl)) ?_;rintro _ w10 rfl ho;rw[pInt_ok hbd.1 (by omega)];simp only[ex];rw[d_ia21,l_cell nInt5 (ho.cell 0 rfl 1 rfl)];refine c_below ho (R:=fun v=>v=.tuple #[.string ⟨(Pl.pInt (g.length:Int)).1.toArray⟩,.int .i64 (Pl.pInt (g.length:Int)).2]) (pint_ret _ w10 (tb 3 ho rfl)) ?_;rintro _ w11 rfl ho;rw[pInt_ok (by omega) (by omega)];have hl1:=Tl.itoa_len hbd.1 (by omega);have hl2:=Tl.itoa_len (n:=(g.length:Int)) (by omega) (by omega);simp only[ex];have e1:∀{PK:PKT} {K:VWP} {T:TypeId} {W:World},DoX prog (mBin .add T (.string ⟨(Lib.itoa (Tl.first g)).toArray⟩) (.string ⟨#[32]⟩)) W PK K=K (.string ⟨(Lib.itoa (Tl.first g)++[32]).toArray⟩) W:=s_add (b:=[32]) (by simp;omega);have e2:∀{PK:PKT} {K:VWP} {T:TypeId} {W:World},DoX prog (mBin .add T (.string ⟨(Lib.itoa (Tl.first g)++[32]).toArray⟩) (.string ⟨(Lib.itoa (g.length:Int)).toArray⟩)) W PK K=K (.string ⟨(Lib.itoa (Tl.first g)++[32]++Lib.itoa g.length).toArray⟩) W:=s_add (by simp;omega);have e3:∀{PK:PKT} {K:VWP} {T:TypeId} {W:World},DoX prog (mBin .add T (.string ⟨(Lib.itoa (Tl.first g)++[32]++Lib.itoa (g.length:Int)).toArray⟩) (.string ⟨#[10]⟩)) W PK K=K (.string ⟨(Lib.itoa (Tl.first g)++[32]++Lib.itoa g.length++[10]).toArray⟩) W:=s_add (b:=[10]) (by simp;omega);rw[e1,e2,e3];refine c_turn 1 ho rfl (writeString_ret (ho.at_ 1 rfl) (by simp;omega)) ?_;rintro _ _ w12 ⟨_,v12,rfl⟩ ho;have ho:OwnS M.A w w12 [rnE b10 (Tl.first g,(g.length:Int)),Bld b7 v12 (Tl.upto x.slots i++(Lib.itoa (Tl.first g)++[32]++Lib.itoa g.length++[10])),secE b1 x vs vk vc,.mem N]:=ho;rw[d_ia21,l_cell nInt5 (ho.cell 0 rfl 1 rfl)];obtain⟨a,cap,rfl,hcap⟩:=hlv.form;have hrl:(x.slots.drop (Tl.pos x.slots i)).length=x.slots.length - Tl.pos x.slots i:=List.length_drop;rw[do_eq (run_sl_h Tryz.underlying23 szSl (by omega) (by omega)),Int.toNat_natCast];have hsub:=sla_upto hlv (m:=g.length) (by omega);rw[Eng.flat_take slC_len,←hge] at hsub;rw[sl_len Tryz.underlying23 (hsub.now (ho.hasM 3 rfl))];refine loop (fun vs' W=>∃(j:Nat) (bv':Value),vs'=[.int .i64 j]∧j≤g.length∧OwnS M.A w W [rnE b10 (Tl.first g,(g.length:Int)),Bld b7 bv' (Tl.upto x.slots i++(Lib.itoa (Tl.first g)++[32]++Lib.itoa g.length++[10])++(g.take j).flatMap fun x=>Tl.cat (Tl.slotPc x)),secE b1 x vs vk vc,.mem N])
  (fun vs' _=>g.length - n0 vs') ⟨0,v12,rfl,by omega,by simpa using ho⟩ ?_
 clear ho;rintro vs' w13 ⟨j,bv',rfl,hj,ho⟩ _;simp only[S_table_Text_1,gd,rs];by_cases hjt:(j:Int) < (g.length:Int)
 case neg=>
  have hj':j=g.length:=by omega
  subst hj';simp only[decide_eq_false hjt,i_f];rw[d_ia21,l_cell nInt5 (ho.cell 0 rfl 1 rfl)];rw[do_eq (run_sl_l Tryz.underlying23 szSl (by omega) (by omega)),Int.toNat_natCast];have hsub2:=sla_from hlv (lo:=g.length) (by omega);rw[Eng.flat_drop slC_len,←hgd,show (x.slots.drop (Tl.pos x.slots i)).length - g.length=(x.slots.drop (Tl.pos x.slots (i+1))).length by rw[hgd];simp;omega] at hsub2;rw[wrap64_id (by omega) (by omega)];rw[List.take_length] at ho;have e:Tl.upto x.slots i++(Lib.itoa (Tl.first g)++[32]++Lib.itoa (g.length:Int)++[10])++g.flatMap (fun x=>Tl.cat (Tl.slotPc x))=Tl.upto x.slots (i+1):=by
   rw[hus];simp[List.append_assoc]
  rw[e] at ho;rw[show (x.slots.drop (Tl.pos x.slots i)).length - g.length=(x.slots.drop (Tl.pos x.slots (i+1))).length by rw[hgd];simp;omega];exact nextX ⟨i+1,_,bv',rfl,by omega,hsub2,ho.tail⟩ (by show (Tl.groups x.slots).length - Int.toNat ((i:Int)+1) < (Tl.groups x.slots).length - Int.toNat (i:Int);omega)
 have hj':j < g.length:=by omega
 simp only[decide_eq_true hjt,i_t];obtain⟨g1,off1,hr1⟩:=slot_at hsub hj';obtain⟨r1,r2⟩:=hr1 w13 (ho.hasM 3 rfl);refine do_eq r1 |>.mpr (do_eq (run_slt r2) |>.mpr ?_);refine o_sla ho fun b16 w14 ho=>?_;refine sl_put (y:=g[j]) 0 ho rfl fun w15 ho=>?_;have hx:=hgok g[j] (List.getElem_mem hj');have hsl50:=Tl.slots_le (g:=g.take j) fun y hy=>hgok y (List.mem_of_mem_take hy);have htk:(g.take (j+1)).flatMap (fun x=>Tl.cat (Tl.slotPc x))=(g.take j).flatMap (fun x=>Tl.cat (Tl.slotPc x))++Tl.cat (Tl.slotPc g[j]):=by
  rw[take_snoc hj',List.flatMap_append];simp
 have hperm:OwnS M.A w w15 [slE b16 g[j],Bld b7 bv' (Tl.upto x.slots i++(Lib.itoa (Tl.first g)++[32]++Lib.itoa g.length++[10])++(g.take j).flatMap fun x=>Tl.cat (Tl.slotPc x)),rnE b10 (Tl.first g,(g.length:Int)),secE b1 x vs vk vc,.mem N]:=
  OwnS.perm ho (List.Perm.cons _ (List.Perm.swap _ _ _))
 refine join fun J hJ=>?_;have go:∀wd:List UInt8,wd=Tl.kindW g[j]→J [.string ⟨wd.toArray⟩] w15:=by
  rintro _ rfl;refine hJ _ _ fun _=>?_;simp only[gd];refine ttext_2 hx (fun W e1 e2 ho=>tb 4 ho rfl) (by simp only[List.length_append,List.length_take] at hsl50 ⊢;simp only[List.length_cons,List.length_nil];omega) (by omega) hperm fun W' bv2 ho=>?_;have ho:=OwnS.perm ho (List.Perm.cons _ (List.Perm.swap _ _ _));refine nextX ⟨j+1,bv2,rfl,by omega,?_⟩ (by show g.length - Int.toNat ((j:Int)+1) < g.length - Int.toNat (j:Int);omega);rw[htk,←List.append_assoc];exact ho.tail
 rw[fa_s1',l_cell nInt5 (hperm.cell 0 rfl 1 rfl)];simp only[rs];by_cases hk:g[j].kind=1
 ·simp only[decide_eq_true hk,i_t];exact go [110] (by unfold Tl.kindW;rw[if_pos hk])
 ·simp only[decide_eq_false hk,i_f];exact go [102] (by unfold Tl.kindW;rw[if_neg hk])
end
end Go.Proofs.YtjloddgofmdmgaaGreatDoor



namespace Go.Proofs.YtjloddgofmdmgaaGreatDoor
section
open Eng Go.RowKit
theorem eqSl:eqT prog 49 [(0,false),(1,false),(2,false),(3,false)]:=⟨by kernel_rfl,by kernel_rfl,by kernel_rfl,by kernel_rfl⟩
theorem sl_beq (x y:Slt):([(0,false),(1,false),(2,false),(3,false)]:List (Nat×Bool)).all (fun p=>cellEq (slC x).toArray[p.1]? (slC y).toArray[p.1]?)=decide (x=y):=by
 have e:([(0,false),(1,false),(2,false),(3,false)]:List (Nat×Bool)).all (fun p=>cellEq (slC x).toArray[p.1]? (slC y).toArray[p.1]?)=((x.num==y.num)&&((x.kind==y.kind)&&((x.a==y.a)&&((x.b==y.b)&&true)))):=rfl;rw[e,Bool.eq_iff_iff];obtain⟨a,b,c,d⟩:=x;obtain⟨a',b',c',d'⟩:=y;simp
theorem r_slne {w:World}{xo yo:Operand}{x y:Slt}:(mEq .neq 49 xo yo (slV x) (slV y)).run prog w=.ok (.value (.bool (!decide (x=y)))) w:=by
 rw[←sl_beq];exact run_neq_agg eqSl rfl
theorem e_slt {w:World}{PK:PKT}{K:VWP}{xo yo:Operand}{x y:Slt}:DoX prog (mEq .eql 49 xo yo (slV x) (slV y)) w PK K=K (.bool (decide (x=y))) w:=by
 refine do_eq ?_;rw[←sl_beq];exact run_eql_agg eqSl rfl
theorem rslots18_ret (la lb:List Slt)(va vb:Value)(M:Mem)(w:World)(hl:la.length≤1000000000)(hM:M.has w)(ha:SlA M.A M.w va 4 la.length (slsC la))(hb:SlA M.A M.w vb 4 lb.length (slsC lb)) :
  Ret prog 19 #[va,vb] w (fun r w'=>r=.bool (decide (la=lb))∧Below w.heap.size w w'):=by
 refine ret_of fun K hK=>S_foliantref18_Slots_ok ?_;unfold S_foliantref18_Slots;rw[sl_len Tryz.underlying23 (ha.now hM),sl_len Tryz.underlying23 (hb.now hM)];simp only[rs];by_cases hlen:(la.length:Int)≠(lb.length:Int)
 ·simp only[decide_eq_true hlen,i_t];have hne:la≠lb:=fun e=>hlen (by rw[e]);exact hK _ _ ⟨by rw[decide_eq_false hne],Below.refl _ _⟩
 have hle:la.length=lb.length:=by omega
 simp only[decide_eq_false hlen,i_f];refine loop (fun vs w'=>∃(i:Nat),vs=[.int .i64 i]∧i≤la.length∧la.take i=lb.take i∧OwnS M.A w w' [.mem M]) (fun vs _=>la.length - n0 vs) ⟨0,rfl,by omega,by simp,OwnS.memS hM⟩ ?_;rintro vs w2 ⟨i,rfl,hi,he,ho⟩ _;simp only[S_foliantref18_Slots_0,gd];rw[sl_len Tryz.underlying23 (ha.now (ho.hasM 0 rfl))];simp only[rs];have fin:∀{W:World} {q:Bool},OwnS M.A w W [.mem M]→decide (la=lb)=q→K (.returned (.bool q)) W:=fun ho h=>hK _ _ ⟨by rw[h],(ho.toGives 0 rfl M.le_refl hM).below⟩;by_cases hlt:(i:Int) < (la.length:Int)
 case neg=>
  simp only[decide_eq_false hlt,i_f];have hab:la=lb:=by
   rw[List.take_of_length_le (by omega),List.take_of_length_le (by omega)] at he;exact he
  exact fin ho (decide_eq_true hab)
 have h1:i < la.length:=by omega
 have h2:i < lb.length:=by omega
 simp only[decide_eq_true hlt,i_t];obtain⟨ga,oa,hra⟩:=slot_at ha h1;obtain⟨gb,ob,hrb⟩:=slot_at hb h2;refine quiet ?_;refine q_at _ (fun W hw=>(hra W ((ho.grow hw).hasM 0 rfl)).1) (q_at _ (fun W hw=>run_slt (hra W ((ho.grow hw).hasM 0 rfl)).2) ?_);refine q_at _ (fun W hw=>(hrb W ((ho.grow hw).hasM 0 rfl)).1) (q_at _ (fun W hw=>run_slt (hrb W ((ho.grow hw).hasM 0 rfl)).2) ?_);refine q_do _ (fun _=>r_slne) ?_;intro w3 hw;have ho:=ho.grow hw;by_cases hq:la[i]=lb[i]
 ·simp only[hq,decide_true,Bool.not_true,i_f,rs];rw[wrap64_id (by omega) (by omega)];refine nextX ⟨i+1,rfl,by omega,?_,ho⟩ (by show la.length - Int.toNat ((i:Int)+1) < la.length - Int.toNat (i:Int);omega);rw[List.take_succ_eq_append_getElem h1,List.take_succ_eq_append_getElem h2,he,hq]
 ·simp only[hq,decide_false,Bool.not_false,i_t];have hne:la≠lb:=fun e=>hq (by subst e;rfl);exact fin ho (decide_eq_false hne)
def secEq (x y:Sec):Bool:=decide (x.at_=y.at_)&&decide (x.prev=y.prev)&&decide (x.hybrid=y.hybrid)&&decide (x.own=y.own)&&decide (x.slots=y.slots)&&Ob.eqb x.trailer y.trailer
theorem fse5' {b:Nat}{w:World}{PK:PKT}{K:VWP}:DoX prog (mFA 29 (.pointer (some ⟨b,0,none⟩)) 5) w PK K=K (.pointer (some ⟨b,10,none⟩)) w:=f_addr fse5
theorem rsame18_ret (x y:Sec)(vx vy:Value)(M:Mem)(w:World)(hl:x.slots.length≤1000000000)(hw:x.trailer.wt≤1000000000)(hM:M.has w)(hx:SecV M vx x)(hy:SecV M vy y) :
  Ret prog 10 #[vx,vy] w (fun r w'=>r=.bool (secEq x y)∧Below w.heap.size w w'):=by
 obtain⟨vs,vk,vc,rfl,hsl,hov⟩:=hx;obtain⟨us,uk,uc,rfl,hsl2,hov2⟩:=hy;refine ret_of fun K hK=>S_foliantref18_Same_ok ?_;unfold S_foliantref18_Same;refine o_seb x hsl.one hov.oneK hov.oneC (OwnS.memS hM) fun b2 w1 ho=>?_;refine o_seb y hsl2.one hov2.oneK hov2.oneC ho fun b3 w2 ho=>?_;have ho:OwnS M.A w w2 [secE b3 y us uk uc,secE b2 x vs vk vc,.mem M]:=ho;have a0:∀{PK:PKT} {K:VWP},DoX prog (mLoad 3 (.pointer (some ⟨b2,0,none⟩))) w2 PK K=K (.int .i64 x.at_) w2:=l_cell nInt5 (ho.cell 1 rfl 0 rfl);have a3:∀{PK:PKT} {K:VWP},DoX prog (mLoad 3 (.pointer (some ⟨b2,8,none⟩))) w2 PK K=K (.int .i64 x.prev) w2:=l_cell nInt5 (ho.cell 1 rfl 8 rfl);have a4:∀{PK:PKT} {K:VWP},DoX prog (mLoad 3 (.pointer (some ⟨b2,9,none⟩))) w2 PK K=K (.int .i64 x.hybrid) w2:=l_cell nInt5 (ho.cell 1 rfl 9 rfl);have a5:∀{PK:PKT} {K:VWP},DoX prog (mLoad 3 (.pointer (some ⟨b2,10,none⟩))) w2 PK K=K (.int .i64 x.own) w2:=l_cell nInt5 (ho.cell 1 rfl 10 rfl);have b0:∀{PK:PKT} {K:VWP},DoX prog (mLoad 3 (.pointer (some ⟨b3,0,none⟩))) w2 PK K=K (.int .i64 y.at_) w2:=l_cell nInt5 (ho.cell 0 rfl 0 rfl);have b3':∀{PK:PKT} {K:VWP},DoX prog (mLoad 3 (.pointer (some ⟨b3,8,none⟩))) w2 PK K=K (.int .i64 y.prev) w2:=l_cell nInt5 (ho.cell 0 rfl 8 rfl);have b4:∀{PK:PKT} {K:VWP},DoX prog (mLoad 3 (.pointer (some ⟨b3,9,none⟩))) w2 PK K=K (.int .i64 y.hybrid) w2:=l_cell nInt5 (ho.cell 0 rfl 9 rfl);have b5:∀{PK:PKT} {K:VWP},DoX prog (mLoad 3 (.pointer (some ⟨b3,10,none⟩))) w2 PK K=K (.int .i64 y.own) w2:=l_cell nInt5 (ho.cell 0 rfl 10 rfl);have fin:∀{W:World} {q:Bool} {L:List Ent},OwnS M.A w W (L++([.mem M]++[]))→secEq x y=q→K (.returned (.bool q)) W:=fun ho h=>hK _ _ ⟨by rw[h],(ho.front.toGives 0 rfl M.le_refl hM).below⟩;unfold secEq at fin;by_cases h0:x.at_=y.at_
 case neg=>
  simp only[rs,fa_se0,a0,b0,decide_eq_false h0,g_un];exact fin (L:=[_,_]) ho (by simp[h0])
 by_cases h3:x.prev=y.prev
 case neg=>
  simp only[rs,fa_se0,a0,b0,decide_eq_true h0,fa_se3,a3,b3',decide_eq_false h3,g_un];exact fin (L:=[_,_]) ho (by simp[h3])
 by_cases h4:x.hybrid=y.hybrid
 case neg=>
  simp only[rs,fa_se0,a0,b0,decide_eq_true h0,fa_se3,a3,b3',decide_eq_true h3,fa_se4,a4,b4,decide_eq_false h4,g_un];exact fin (L:=[_,_]) ho (by simp[h4])
 by_cases h5:x.own=y.own
 case neg=>
  simp only[rs,fa_se0,a0,b0,decide_eq_true h0,fa_se3,a3,b3',decide_eq_true h3,fa_se4,a4,b4,decide_eq_true h4,fse5',a5,b5,decide_eq_false h5,g_un];exact fin (L:=[_,_]) ho (by simp[h5])
 simp only[rs,fa_se0,a0,b0,decide_eq_true h0,fa_se3,a3,b3',decide_eq_true h3,fa_se4,a4,b4,decide_eq_true h4,fse5',a5,b5,decide_eq_true h5,fa_se1,se_sl ho 0 rfl,se_sl ho 1 rfl];refine c_below ho (R:=fun v=>v=.bool (decide (x.slots=y.slots))) (rslots18_ret x.slots y.slots vs us M w2 hl (ho.hasM 2 rfl) hsl hsl2) ?_;rintro _ w3 rfl ho;by_cases hs:x.slots=y.slots
 case neg=>
  simp only[rs,decide_eq_false hs,g_un];exact fin (L:=[_,_]) ho (by simp[hs])
 simp only[rs,decide_eq_true hs,fa_se2,se_tr ho 0 rfl,se_tr ho 1 rfl];refine c_below ho (R:=fun v=>v=.bool (Ob.eqb x.trailer y.trailer)) (rsame5_ret _ x.trailer y.trailer _ _ w3 (Nat.le_refl _) hw (OV.inw (ho.hasM 2 rfl) hov) (OV.inw (ho.hasM 2 rfl) hov2)) ?_;rintro _ w4 rfl ho
 try simp only[rs]
 exact fin (L:=[_,_]) ho (by simp[h0,h3,h4,h5,hs])
end
section
open Go
namespace Tl
def smpA:List UInt8:=[120,114,101,102,13,10,48,32,49,10,48,48,48,48,48,48,48,48,48,48,32,54,53,53,51,53,32,102,32,10,116,114,97,105,108,101,114,60,60,62,62,120]
def smpB:List UInt8:=[120,114,101,102,32,48,32,49,32,48,32,48,32,110,32,48,32,49,32,48,32,48,32,110,32,116,114,97,105,108,101,114,60,60,62,62]
def smpT:List UInt8:=[120,114,101,102,10,51,32,49,10,48,48,48,48,48,48,48,48,49,53,32,48,48,48,48,48,32,110,32,10,116,114,97,105,108,101,114,10,60,60,62,62,10]
theorem smp1:(read smpA 0).2=(41,0):=by decide +kernel
theorem smp2:(read smpA 0).1.slots=[⟨0,0,0,65535⟩]∧(read smpA 0).1.prev=-1∧(read smpA 0).1.hybrid=-1:=by decide +kernel
theorem smp3:(read smpA 1).2.2=19:=by decide +kernel
theorem smp4:(read smpB 0).2.2=19:=by decide +kernel
theorem smp5:text [⟨3,1,15,0⟩] (.mk 7 0 0 [] [] [])=(smpT,0):=by decide +kernel
theorem smp6:runs [⟨0,0,0,0⟩,⟨1,0,0,0⟩,⟨3,0,0,0⟩]=[(0,2),(3,1)]:=by decide +kernel
theorem smp7:(text [⟨0,0,0,0⟩] (.mk 7 0 0 [] [] [])).2=1:=by decide +kernel
theorem smp8:check [⟨2,0,0,0⟩,⟨1,0,0,0⟩]=1:=by decide +kernel
end Tl
end
section
open Eng
def S_foliantlaw18_lives (w:World)(K:Ending→World→Prop):Prop:=
 CallX prog 8 #[(.string ⟨#[120,114,101,102,13,10,48,32,49,10,48,48,48,48,48,48,48,48,48,48,32,54,53,53,51,53,32,102,32,10,116,114,97,105,108,101,114,60,60,62,62,120]⟩),(.int .i64 0)] w (pk K) fun t18 w=>
 DoX prog (mExt t18 0) w (pk K) fun t19 w=>
 DoX prog (mExt t18 1) w (pk K) fun t20 w=>
 DoX prog (mExt t18 2) w (pk K) fun t21 w=>
 DoX prog (mAlloc 29) w (pk K) fun t2 w=>
 DoX prog (mStore 29 t2 t19) w (pk K) fun _ w=>
 CallX prog 8 #[(.string ⟨#[120,114,101,102,13,10,48,32,49,10,48,48,48,48,48,48,48,48,48,48,32,54,53,53,51,53,32,102,32,10,116,114,97,105,108,101,114,60,60,62,62,120]⟩),(.int .i64 1)] w (pk K) fun t24 w=>
 DoX prog (mExt t24 0) w (pk K) fun t25 w=>
 DoX prog (mExt t24 1) w (pk K) fun t26 w=>
 DoX prog (mExt t24 2) w (pk K) fun t27 w=>
 DoX prog (mAlloc 29) w (pk K) fun t5 w=>
 DoX prog (mStore 29 t5 t25) w (pk K) fun _ w=>
 CallX prog 8 #[(.string ⟨#[120,114,101,102,32,48,32,49,32,48,32,48,32,110,32,48,32,49,32,48,32,48,32,110,32,116,114,97,105,108,101,114,60,60,62,62]⟩),(.int .i64 0)] w (pk K) fun t29 w=>
 DoX prog (mExt t29 0) w (pk K) fun t30 w=>
 DoX prog (mExt t29 1) w (pk K) fun t31 w=>
 DoX prog (mExt t29 2) w (pk K) fun t32 w=>
 DoX prog (mAlloc 29) w (pk K) fun t8 w=>
 DoX prog (mStore 29 t8 t30) w (pk K) fun _ w=>
 DoX prog (mBuild 49 #[(0,(.int .i64 3)),(1,(.int .i64 1)),(2,(.int .i64 15))]) w (pk K) fun t34 w=>
 DoX prog (mBuildS 23 1 #[(0,t34)]) w (pk K) fun t35 w=>
 DoX prog (mBuild 27 #[(0,(.int .i64 7))]) w (pk K) fun t36 w=>
 DoX prog (mBuild 29 #[(1,t35),(2,t36)]) w (pk K) fun t37 w=>
 CallX prog 12 #[t37] w (pk K) fun t38 w=>
 DoX prog (mExt t38 0) w (pk K) fun t39 w=>
 DoX prog (mExt t38 1) w (pk K) fun t40 w=>
 DoX prog (mBuild 49 #[(0,(.int .i64 0))]) w (pk K) fun t41 w=>
 DoX prog (mBuild 49 #[(0,(.int .i64 1))]) w (pk K) fun t42 w=>
 DoX prog (mBuild 49 #[(0,(.int .i64 3))]) w (pk K) fun t43 w=>
 DoX prog (mBuildS 23 3 #[(0,t41),(1,t42),(2,t43)]) w (pk K) fun t44 w=>
 CallX prog 14 #[t44] w (pk K) fun t45 w=>
 DoX prog (mBuild 49 #[]) w (pk K) fun t47 w=>
 DoX prog (mBuildS 23 1 #[(0,t47)]) w (pk K) fun t48 w=>
 DoX prog (mBuild 27 #[(0,(.int .i64 7))]) w (pk K) fun t49 w=>
 DoX prog (mBuild 29 #[(1,t48),(2,t49)]) w (pk K) fun t50 w=>
 CallX prog 12 #[t50] w (pk K) fun t51 w=>
 DoX prog (mExt t51 0) w (pk K) fun t52 w=>
 DoX prog (mExt t51 1) w (pk K) fun t53 w=>
 DoX prog (mEq .eql 30 (.tmp 54) (.const (.int .i64 0)) t21 (.int .i64 0)) w (pk K) fun t55 w=>
 GDo t55 true (fun E=>E t20 w) w fun t57 w=>
 GDo t55 true (fun E=>E (.string ⟨#[120,114,101,102,13,10,48,32,49,10,48,48,48,48,48,48,48,48,48,48,32,54,53,53,51,53,32,102,32,10,116,114,97,105,108,101,114,60,60,62,62,120]⟩) w) w fun t58 w=>
 GDo t55 true (fun E=>DoX prog (mB .len #[9] 3 #[false] #[t58]) w (pk K) E) w fun t59 w=>
 GDo t55 true (fun E=>DoX prog (mBin .sub 3 t59 (.int .i64 1)) w (pk K) E) w fun t60 w=>
 GDo t55 true (fun E=>DoX prog (mEq .eql 3 (.tmp 57) (.tmp 60) t57 t60) w (pk K) E) w fun t61 w=>
 DoX prog (mPick t55 t61 (.bool false)) w (pk K) fun t62 w=>
 GDo t62 true (fun E=>DoX prog (mFA 29 t2 1) w (pk K) E) w fun t64 w=>
 GDo t62 true (fun E=>DoX prog (mLoad 23 t64) w (pk K) E) w fun t65 w=>
 GDo t62 true (fun E=>DoX prog (mB .len #[23] 3 #[false] #[t65]) w (pk K) E) w fun t66 w=>
 GDo t62 true (fun E=>DoX prog (mEq .eql 3 (.tmp 66) (.const (.int .i64 1)) t66 (.int .i64 1)) w (pk K) E) w fun t67 w=>
 DoX prog (mPick t62 t67 (.bool false)) w (pk K) fun t68 w=>
 GDo t68 true (fun E=>DoX prog (mFA 29 t2 1) w (pk K) E) w fun t70 w=>
 GDo t68 true (fun E=>DoX prog (mLoad 23 t70) w (pk K) E) w fun t71 w=>
 GDo t68 true (fun E=>DoX prog (mIA 23 t71 (.int .i64 0)) w (pk K) E) w fun t72 w=>
 GDo t68 true (fun E=>DoX prog (mLoad 49 t72) w (pk K) E) w fun t73 w=>
 GDo t68 true (fun E=>DoX prog (mBuild 49 #[(3,(.int .i64 65535))]) w (pk K) E) w fun t74 w=>
 GDo t68 true (fun E=>DoX prog (mEq .eql 49 (.tmp 73) (.tmp 74) t73 t74) w (pk K) E) w fun t75 w=>
 DoX prog (mPick t68 t75 (.bool false)) w (pk K) fun t76 w=>
 GDo t76 true (fun E=>DoX prog (mFA 29 t2 3) w (pk K) E) w fun t78 w=>
 GDo t76 true (fun E=>DoX prog (mLoad 3 t78) w (pk K) E) w fun t79 w=>
 GDo t76 true (fun E=>DoX prog (mEq .eql 3 (.tmp 79) (.const (.int .i64 (-1))) t79 (.int .i64 (-1))) w (pk K) E) w fun t80 w=>
 DoX prog (mPick t76 t80 (.bool false)) w (pk K) fun t81 w=>
 GDo t81 true (fun E=>DoX prog (mFA 29 t2 4) w (pk K) E) w fun t83 w=>
 GDo t81 true (fun E=>DoX prog (mLoad 3 t83) w (pk K) E) w fun t84 w=>
 GDo t81 true (fun E=>DoX prog (mEq .eql 3 (.tmp 84) (.const (.int .i64 (-1))) t84 (.int .i64 (-1))) w (pk K) E) w fun t85 w=>
 DoX prog (mPick t81 t85 (.bool false)) w (pk K) fun t86 w=>
 GDo t86 true (fun E=>E t27 w) w fun t88 w=>
 GDo t86 true (fun E=>DoX prog (mEq .eql 30 (.tmp 88) (.const (.int .i64 19)) t88 (.int .i64 19)) w (pk K) E) w fun t89 w=>
 DoX prog (mPick t86 t89 (.bool false)) w (pk K) fun t90 w=>
 GDo t90 true (fun E=>E t32 w) w fun t92 w=>
 GDo t90 true (fun E=>DoX prog (mEq .eql 30 (.tmp 92) (.const (.int .i64 19)) t92 (.int .i64 19)) w (pk K) E) w fun t93 w=>
 DoX prog (mPick t90 t93 (.bool false)) w (pk K) fun t94 w=>
 GDo t94 true (fun E=>E t40 w) w fun t96 w=>
 GDo t94 true (fun E=>DoX prog (mEq .eql 30 (.tmp 96) (.const (.int .i64 0)) t96 (.int .i64 0)) w (pk K) E) w fun t97 w=>
 DoX prog (mPick t94 t97 (.bool false)) w (pk K) fun t98 w=>
 GDo t98 true (fun E=>E t39 w) w fun t100 w=>
 GDo t98 true (fun E=>DoX prog (mEq .eql 9 (.tmp 100) (.const (.string ⟨#[120,114,101,102,10,51,32,49,10,48,48,48,48,48,48,48,48,49,53,32,48,48,48,48,48,32,110,32,10,116,114,97,105,108,101,114,10,60,60,62,62,10]⟩)) t100 (.string ⟨#[120,114,101,102,10,51,32,49,10,48,48,48,48,48,48,48,48,49,53,32,48,48,48,48,48,32,110,32,10,116,114,97,105,108,101,114,10,60,60,62,62,10]⟩)) w (pk K) E) w fun t101 w=>
 DoX prog (mPick t98 t101 (.bool false)) w (pk K) fun t102 w=>
 GDo t102 true (fun E=>E t45 w) w fun t104 w=>
 GDo t102 true (fun E=>DoX prog (mB .len #[38] 3 #[false] #[t104]) w (pk K) E) w fun t105 w=>
 GDo t102 true (fun E=>DoX prog (mEq .eql 3 (.tmp 105) (.const (.int .i64 2)) t105 (.int .i64 2)) w (pk K) E) w fun t106 w=>
 DoX prog (mPick t102 t106 (.bool false)) w (pk K) fun t107 w=>
 GDo t107 true (fun E=>E t45 w) w fun t109 w=>
 GDo t107 true (fun E=>DoX prog (mIA 38 t109 (.int .i64 0)) w (pk K) E) w fun t110 w=>
 GDo t107 true (fun E=>DoX prog (mLoad 40 t110) w (pk K) E) w fun t111 w=>
 GDo t107 true (fun E=>DoX prog (mBuild 40 #[(0,(.int .i64 0)),(1,(.int .i64 2))]) w (pk K) E) w fun t112 w=>
 GDo t107 true (fun E=>DoX prog (mEq .eql 40 (.tmp 111) (.tmp 112) t111 t112) w (pk K) E) w fun t113 w=>
 DoX prog (mPick t107 t113 (.bool false)) w (pk K) fun t114 w=>
 GDo t114 true (fun E=>E t45 w) w fun t116 w=>
 GDo t114 true (fun E=>DoX prog (mIA 38 t116 (.int .i64 1)) w (pk K) E) w fun t117 w=>
 GDo t114 true (fun E=>DoX prog (mLoad 40 t117) w (pk K) E) w fun t118 w=>
 GDo t114 true (fun E=>DoX prog (mBuild 40 #[(0,(.int .i64 3)),(1,(.int .i64 1))]) w (pk K) E) w fun t119 w=>
 GDo t114 true (fun E=>DoX prog (mEq .eql 40 (.tmp 118) (.tmp 119) t118 t119) w (pk K) E) w fun t120 w=>
 DoX prog (mPick t114 t120 (.bool false)) w (pk K) fun t121 w=>
 GDo t121 true (fun E=>E t53 w) w fun t123 w=>
 GDo t121 true (fun E=>DoX prog (mEq .eql 30 (.tmp 123) (.const (.int .i64 1)) t123 (.int .i64 1)) w (pk K) E) w fun t124 w=>
 DoX prog (mPick t121 t124 (.bool false)) w (pk K) fun t125 w=>
 GDo t125 true (fun E=>DoX prog (mBuild 49 #[(0,(.int .i64 2))]) w (pk K) E) w fun t127 w=>
 GDo t125 true (fun E=>DoX prog (mBuild 49 #[(0,(.int .i64 1))]) w (pk K) E) w fun t128 w=>
 GDo t125 true (fun E=>DoX prog (mBuildS 23 2 #[(0,t127),(1,t128)]) w (pk K) E) w fun t129 w=>
 GDo t125 true (fun E=>CallX prog 16 #[t129] w (pk K) E) w fun t130 w=>
 GDo t125 true (fun E=>DoX prog (mEq .eql 30 (.tmp 130) (.const (.int .i64 1)) t130 (.int .i64 1)) w (pk K) E) w fun t131 w=>
 DoX prog (mPick t125 t131 (.bool false)) w (pk K) fun t132 w=>
 K (.returned t132) w
theorem S_foliantlaw18_lives_eq (w:World)(K:Ending→World→Prop):wpX prog 133 [] [] none (bodyOf Tryz.f7) (topQ prog [.tmp 0] K) (startX []) [] w=S_foliantlaw18_lives w K:=by kernel_rfl
theorem S_foliantlaw18_lives_ok {w:World}{K:Ending→World→Prop}(h:S_foliantlaw18_lives w K):Calls prog 7 #[] w K:=
 calls_of_wpX Tryz.func7 rfl rfl rfl rfl (Eq.mpr (S_foliantlaw18_lives_eq w K) h)
def S_foliantlaw18_TableReads (t0 t1:Value)(w:World)(K:Ending→World→Prop):Prop:=
 DoX prog (mB .len #[9] 3 #[false] #[t0]) w (pk K) fun t12 w=>
 DoX prog (mBin .gtr 3 t12 (.int .i64 3000)) w (pk K) fun t13 w=>
 IfX t13 (CallX prog 7 #[] w (pk K) fun t14 w=>
 K (.returned t14) w) (CallX prog 8 #[t0,t1] w (pk K) fun t18 w=>
 DoX prog (mExt t18 0) w (pk K) fun t19 w=>
 DoX prog (mExt t18 1) w (pk K) fun t20 w=>
 DoX prog (mExt t18 2) w (pk K) fun t21 w=>
 DoX prog (mAlloc 29) w (pk K) fun t5 w=>
 DoX prog (mStore 29 t5 t19) w (pk K) fun _ w=>
 CallX prog 9 #[t0,t1] w (pk K) fun t25 w=>
 DoX prog (mExt t25 0) w (pk K) fun t26 w=>
 DoX prog (mExt t25 1) w (pk K) fun t27 w=>
 DoX prog (mExt t25 2) w (pk K) fun t28 w=>
 DoX prog (mAlloc 29) w (pk K) fun t8 w=>
 DoX prog (mStore 29 t8 t26) w (pk K) fun _ w=>
 DoX prog (mLoad 29 t5) w (pk K) fun t29 w=>
 DoX prog (mLoad 29 t8) w (pk K) fun t30 w=>
 CallX prog 10 #[t29,t30] w (pk K) fun t31 w=>
 GDo t31 true (fun E=>E t20 w) w fun t33 w=>
 GDo t31 true (fun E=>E t27 w) w fun t34 w=>
 GDo t31 true (fun E=>DoX prog (mEq .eql 3 (.tmp 33) (.tmp 34) t33 t34) w (pk K) E) w fun t35 w=>
 DoX prog (mPick t31 t35 (.bool false)) w (pk K) fun t36 w=>
 GDo t36 true (fun E=>E t21 w) w fun t38 w=>
 GDo t36 true (fun E=>E t28 w) w fun t39 w=>
 GDo t36 true (fun E=>DoX prog (mEq .eql 30 (.tmp 38) (.tmp 39) t38 t39) w (pk K) E) w fun t40 w=>
 DoX prog (mPick t36 t40 (.bool false)) w (pk K) fun t41 w=>
 GDo t41 true (fun E=>CallX prog 7 #[] w (pk K) E) w fun t43 w=>
 DoX prog (mPick t41 t43 (.bool false)) w (pk K) fun t44 w=>
 K (.returned t44) w)
theorem S_foliantlaw18_TableReads_eq (t0 t1:Value)(w:World)(K:Ending→World→Prop):wpX prog 45 [] [] none (bodyOf Tryz.f3) (topQ prog [.tmp 4] K) (startX [t0,t1]) [] w=S_foliantlaw18_TableReads t0 t1 w K:=by kernel_rfl
theorem S_foliantlaw18_TableReads_ok {t0 t1:Value}{w:World}{K:Ending→World→Prop}(h:S_foliantlaw18_TableReads t0 t1 w K):Calls prog 3 #[t0,t1] w K:=
 calls_of_wpX Tryz.func3 rfl rfl rfl rfl (Eq.mpr (S_foliantlaw18_TableReads_eq t0 t1 w K) h)
end
section
open Eng Go.RowKit
section
variable {w:World}{PK:PKT}{K:VWP}{S:Nat→Prop}{w0:World}{L:List Ent}
theorem m_slA {n k a:Int}:DoX prog (mBuild 49 #[(0,.int .i64 n),(1,.int .i64 k),(2,.int .i64 a)]) w PK K=K (slV ⟨n,k,a,0⟩) w:=do_eq (by kernel_rfl)
theorem m_slN {n:Int}:DoX prog (mBuild 49 #[(0,.int .i64 n)]) w PK K=K (slV ⟨n,0,0,0⟩) w:=do_eq (by kernel_rfl)
theorem m_slB {b:Int}:DoX prog (mBuild 49 #[(3,.int .i64 b)]) w PK K=K (slV ⟨0,0,0,b⟩) w:=do_eq (by kernel_rfl)
theorem m_seT {b n c:Nat}{l:List Slt}:DoX prog (mBuild 29 #[(1,.slice (some ⟨b,0,none⟩) n c),(2,obV (.mk 7 0 0 [] [] []) nilS nilS)]) w PK K=K (secV ⟨0,l,.mk 7 0 0 [] [] [],0,0,0⟩ (.slice (some ⟨b,0,none⟩) n c) nilS nilS) w:=do_eq (by kernel_rfl)
theorem e_rn {xo yo:Operand}{p q:Int×Int}:DoX prog (mEq .eql 40 xo yo (rnV p) (rnV q)) w PK K=K (.bool (decide (p=q))) w:=by
 refine do_eq ?_;have:=run_eql_arr2 arr2 (w:=w) (xo:=xo) (yo:=yo) (a:=p.1) (b:=p.2) (c:=q.1) (e:=q.2);rw[show (decide (p=q))=(decide (p.1=q.1)&&decide (p.2=q.2)) by
  obtain⟨a,b⟩:=p;obtain⟨c,d⟩:=q;simp[Bool.eq_iff_iff]]
 exact this
theorem o_slsM {m:Sem Next}(l:List Slt)(i:Nat){M:Mem}(hm:∀w,m.run prog w=.ok (.value (.slice (some ⟨w.heap.size,0,none⟩) l.length l.length)) (w.alloc (.cells (slsC l).toArray 49)))(ho:OwnS S w0 w L)(hi:L[i]?=some (.mem M))(hb:l.length≤1000)
  (k:∀(b:Nat) (N:Mem) (w':World),M.le N→SlA N.A N.w (.slice (some ⟨b,0,none⟩) l.length l.length) 4 l.length (slsC l)→OwnS S w0 w' (L.set i (.mem N))→K (.slice (some ⟨b,0,none⟩) l.length l.length) w'):DoX prog m w PK K:=by
 refine o_new (fun b=>.slice (some ⟨b,0,none⟩) l.length l.length) (slsC l) 49 hm ho fun b w1 ho=>?_;have ho:=OwnS.toU ho 4 l.length l.length (Eng.flat_len slC_len l) (Nat.le_refl _) (by omega);rw[←Eng.flat_len slC_len l,List.take_length] at ho;obtain⟨N,hle,hrow,ho⟩:=OwnS.freezeU ho i hi;exact k b N w1 hle hrow ho
end
theorem dict0_ov {A:Nat→Prop}{w:World}:OV A w (obV (.mk 7 0 0 [] [] []) nilS nilS) (.mk 7 0 0 [] [] []):=by
 rw[OV];exact⟨nilS,nilS,[],rfl,SlA.nil _ _ _ _,SlA.nil _ _ _ _,rfl⟩
theorem lives18_ret (w:World)(ht:Tb w):Ret prog 7 #[] w (fun v w'=>v=.bool true∧Below w.heap.size w w'):=by
 refine ret_of fun K hK=>S_foliantlaw18_lives_ok ?_;unfold S_foliantlaw18_lives;have hM:(Mem.all w).has w:=Mem.all_has w;have s1:=Tl.smp1;have s2:=Tl.smp2;have s3:=Tl.smp3;have s4:=Tl.smp4;refine c_mem (OwnS.memS hM) 0 rfl (tread_ret Tl.smpA 0 (Mem.all w) w (by decide) hM) ?_;rintro _ N1 w1 h1 ⟨_,rfl,vs,vk,vc,rfl,hsl,hov⟩ ho;have ho:OwnS (Mem.all w).A w w1 [.mem N1]:=ho;rw[s1];simp only[ex];refine o_sea ho fun b2 w2 ho=>?_;refine se_put (y:=(Tl.read Tl.smpA 0).1) 0 hsl.one hov.oneK hov.oneC ho rfl fun w3 ho=>?_;have ho:OwnS (Mem.all w).A w w3 [secE b2 (Tl.read Tl.smpA 0).1 vs vk vc,.mem N1]:=ho;refine c_mem ho 1 rfl (tread_ret Tl.smpA 1 N1 w3 (by decide) (ho.hasM 1 rfl)) ?_;rintro _ N2 w4 h2 ⟨_,rfl,us,uk,uc,rfl,hsl2,hov2⟩ ho;simp only[ex];refine o_sea ho fun b5 w5 ho=>?_;refine se_put (y:=(Tl.read Tl.smpA 1).1) 0 hsl2.one hov2.oneK hov2.oneC ho rfl fun w6 ho=>?_;have ho:OwnS (Mem.all w).A w w6 [secE b2 (Tl.read Tl.smpA 0).1 vs vk vc,.mem N2]:=ho.tail;refine c_mem ho 1 rfl (tread_ret Tl.smpB 0 N2 w6 (by decide) (ho.hasM 1 rfl)) ?_;rintro _ N3 w7 h3 ⟨_,rfl,xs,xk,xc,rfl,hsl3,hov3⟩ ho;simp only[ex];refine o_sea ho fun b8 w8 ho=>?_;refine se_put (y:=(Tl.read Tl.smpB 0).1) 0 hsl3.one hov3.oneK hov3.oneC ho rfl fun w9 ho=>?_;have ho:OwnS (Mem.all w).A w w9 [secE b2 (Tl.read Tl.smpA 0).1 vs vk vc,.mem N3]:=ho.tail;rw[m_slA];refine o_slsM [⟨3,1,15,0⟩] 1 (fun _=>by kernel_rfl) ho rfl (by decide) fun b35 N4 w10 h4 hs4 ho=>?_;have ho:OwnS (Mem.all w).A w w10 [secE b2 (Tl.read Tl.smpA 0).1 vs vk vc,.mem N4]:=ho;rw[m_ob7,m_seT (l:=[⟨3,1,15,0⟩])];have hle4:=((h1.trans h2).trans h3).trans h4;have tb:∀{W:World} {L:List Ent} {N:Mem} (i:Nat),OwnS (Mem.all w).A w W L→L[i]?=some (.mem N)→(Mem.all w).le N→Tb W:=fun i ho hi hle=>ht.mono (ho.toGives i hi hle hM).below;refine c_below ho (R:=fun v=>v=txtV (Tl.text [⟨3,1,15,0⟩] (.mk 7 0 0 [] [] []))) (ttext_ret ⟨0,[⟨3,1,15,0⟩],.mk 7 0 0 [] [] [],0,0,0⟩ _ N4 w10 (tb 1 ho rfl hle4) (by decide) (fun y hy=>by rcases List.mem_singleton.1 hy with rfl;decide) (by decide) (ho.hasM 1 rfl) ⟨_,nilS,nilS,rfl,hs4,dict0_ov⟩) ?_;rintro _ w11 rfl ho;rw[Tl.smp5];simp only[txtV,ex];rw[m_slN,m_slN,m_slN];refine o_slsM [⟨0,0,0,0⟩,⟨1,0,0,0⟩,⟨3,0,0,0⟩] 1 (fun _=>by kernel_rfl) ho rfl (by decide) fun b44 N5 w12 h5 hs5 ho=>?_;have ho:OwnS (Mem.all w).A w w12 [secE b2 (Tl.read Tl.smpA 0).1 vs vk vc,.mem N5]:=ho;refine c_mem ho 1 rfl (truns_ret _ _ N5 w12 (by decide) (fun y hy=>by simp only[List.mem_cons,List.not_mem_nil,or_false] at hy;rcases hy with rfl|rfl|rfl<;>decide) (ho.hasM 1 rfl) hs5) ?_;rintro rv N6 w13 h6 hrn ho;have ho:OwnS (Mem.all w).A w w13 [secE b2 (Tl.read Tl.smpA 0).1 vs vk vc,.mem N6]:=ho;unfold RnsV at hrn;rw[Tl.smp6] at hrn;rw[m_sl0];refine o_slsM [⟨0,0,0,0⟩] 1 (fun _=>by kernel_rfl) ho rfl (by decide) fun b48 N7 w14 h7 hs7 ho=>?_;have ho:OwnS (Mem.all w).A w w14 [secE b2 (Tl.read Tl.smpA 0).1 vs vk vc,.mem N7]:=ho;rw[m_ob7,m_seT (l:=[⟨0,0,0,0⟩])];have hle7:=((hle4.trans h5).trans h6).trans h7;refine c_below ho (R:=fun v=>v=txtV (Tl.text [⟨0,0,0,0⟩] (.mk 7 0 0 [] [] []))) (ttext_ret ⟨0,[⟨0,0,0,0⟩],.mk 7 0 0 [] [] [],0,0,0⟩ _ N7 w14 (tb 1 ho rfl hle7) (by decide) (fun y hy=>by rcases List.mem_singleton.1 hy with rfl;decide) (by decide) (ho.hasM 1 rfl) ⟨_,nilS,nilS,rfl,hs7,dict0_ov⟩) ?_;rintro _ w15 rfl ho;simp only[txtV,ex];have e7:(Tl.text [⟨0,0,0,0⟩] (.mk 7 0 0 [] [] [])).2=1:=Tl.smp7;rw[e7,s3,s4]
 -- what is compared
 have hsl7:SlA N7.A N7.w vs 4 (Tl.read Tl.smpA 0).1.slots.length (slsC (Tl.read Tl.smpA 0).1.slots):=hsl.le (((((h2.trans h3).trans h4).trans h5).trans h6).trans h7);rw[s2.1] at hsl7;obtain⟨g1,o1,hr1⟩:=slot_at hsl7 (i:=0) (by decide);obtain⟨r1,r2⟩:=hr1 w15 (ho.hasM 1 rfl);have hrn7:SlA N7.A N7.w rv 2 ([(0,2),(3,1)]:List (Int×Int)).length (rnsC [(0,2),(3,1)]):=hrn.le h7;obtain⟨g2,o2,hr2⟩:=rn_at hrn7 (i:=0) (by decide);obtain⟨r3,r4⟩:=hr2 w15 (ho.hasM 1 rfl);obtain⟨g3,o3,hr3⟩:=rn_at hrn7 (i:=1) (by decide);obtain⟨r5,r6⟩:=hr3 w15 (ho.hasM 1 rfl);have i1:∀{PK:PKT} {K:VWP},DoX prog (mIA 23 vs (.int .i64 0)) w15 PK K=K (.pointer (some ⟨g1,o1,none⟩)) w15:=do_eq r1;have l1:∀{PK:PKT} {K:VWP},DoX prog (mLoad 49 (.pointer (some ⟨g1,o1,none⟩))) w15 PK K=K (slV ⟨0,0,0,65535⟩) w15:=do_eq (run_slt r2);have i2:∀{PK:PKT} {K:VWP},DoX prog (mIA 38 rv (.int .i64 0)) w15 PK K=K (.pointer (some ⟨g2,o2,none⟩)) w15:=do_eq r3;have l2:∀{PK:PKT} {K:VWP},DoX prog (mLoad 40 (.pointer (some ⟨g2,o2,none⟩))) w15 PK K=K (rnV (0,2)) w15:=do_eq (run_rn r4);have i3:∀{PK:PKT} {K:VWP},DoX prog (mIA 38 rv (.int .i64 1)) w15 PK K=K (.pointer (some ⟨g3,o3,none⟩)) w15:=do_eq r5;have l3:∀{PK:PKT} {K:VWP},DoX prog (mLoad 40 (.pointer (some ⟨g3,o3,none⟩))) w15 PK K=K (rnV (3,1)) w15:=do_eq (run_rn r6);have n1:∀{PK:PKT} {K:VWP} {T:TypeId} {cb:Array Bool},DoX prog (mB .len #[23] T cb #[vs]) w15 PK K=K (.int .i64 1) w15:=sl_len Tryz.underlying23 (hsl7.now (ho.hasM 1 rfl));have n2:∀{PK:PKT} {K:VWP} {T:TypeId} {cb:Array Bool},DoX prog (mB .len #[38] T cb #[rv]) w15 PK K=K (.int .i64 2) w15:=sl_len Tryz.underlying38 (hrn7.now (ho.hasM 1 rfl));have p1:∀{PK:PKT} {K:VWP},DoX prog (mLoad 3 (.pointer (some ⟨b2,8,none⟩))) w15 PK K=K (.int .i64 (-1)) w15:=by
  intro PK K;have:=l_cell (P:=prog) (PK:=PK) (K:=K) nInt5 (ho.cell 0 rfl 8 rfl);rw[s2.2.1] at this;exact this
 have p2:∀{PK:PKT} {K:VWP},DoX prog (mLoad 3 (.pointer (some ⟨b2,9,none⟩))) w15 PK K=K (.int .i64 (-1)) w15:=by
  intro PK K;have:=l_cell (P:=prog) (PK:=PK) (K:=K) nInt5 (ho.cell 0 rfl 9 rfl);rw[s2.2.2] at this;exact this
 have n3:∀{PK:PKT} {K:VWP} {W:World} {T:TypeId} {cb:Array Bool},DoX prog (mB .len #[9] T cb #[.string ⟨#[120,114,101,102,13,10,48,32,49,10,48,48,48,48,48,48,48,48,48,48,32,54,53,53,51,53,32,102,32,10,116,114,97,105,108,101,114,60,60,62,62,120]⟩]) W PK K=K (.int .i64 42) W:=s_len (a:=Tl.smpA) Tryz.underlying9;have e1:∀{PK:PKT} {K:VWP} {W:World} {xo yo:Operand},DoX prog (mEq .eql 9 xo yo (.string ⟨Tl.smpT.toArray⟩) (.string ⟨#[120,114,101,102,10,51,32,49,10,48,48,48,48,48,48,48,48,49,53,32,48,48,48,48,48,32,110,32,10,116,114,97,105,108,101,114,10,60,60,62,62,10]⟩)) W PK K=K (.bool true) W:=by
  intro PK K W xo yo;have:=e_str (P:=prog) (w:=W) (PK:=PK) (K:=K) (T:=9) (xo:=xo) (yo:=yo) (a:=Tl.smpT) (b:=Tl.smpT);rw[decide_eq_true rfl] at this;exact this
 have w41:IntKind.wrap .i64 (42 - 1)=41:=by decide
 simp only[rs,decide_true,n3,w41,fa_se1,se_sl ho 0 rfl,n1,i1,l1,m_slB,e_slt,fa_se3,p1,fa_se4,p2,e1,n2,i2,l2,m_rn,e_rn,i3,l3,m_slN,eq_self];refine o_slsM [⟨2,0,0,0⟩,⟨1,0,0,0⟩] 1 (fun _=>by kernel_rfl) ho rfl (by decide) fun b129 N8 w16 h8 hs8 ho=>?_;have ho:OwnS (Mem.all w).A w w16 [secE b2 (Tl.read Tl.smpA 0).1 vs vk vc,.mem N8]:=ho;refine c_below ho (R:=fun v=>v=.int .i64 (Tl.check [⟨2,0,0,0⟩,⟨1,0,0,0⟩])) (tcheck_ret _ _ N8 w16 (by decide) (ho.hasM 1 rfl) hs8) ?_;rintro _ w17 rfl ho;rw[Tl.smp8];simp only[rs,decide_true];exact hK _ _ ⟨rfl,(ho.toGives 1 rfl (hle7.trans h8) hM).below⟩
end
section
open Go
namespace Tl
theorem lay_len {l y:List Slt}{x:Slt}(h:lay l x=some y):y.length=l.length+1:=by
 unfold lay at h;split at h
 ·cases h
 cases h;have e:=congrArg List.length (List.takeWhile_append_dropWhile (p:=fun y:Slt=>decide (y.num < x.num)) (l:=l));simp only[List.length_append,List.length_cons] at e ⊢;omega
theorem entries_len {s:List UInt8}:∀(n:Nat) (num a:Int) (l:List Slt) (r:List Slt×Int),entries s n num a l=some r→(r.1.length:Int)≤l.length+(r.2 - a)∧a≤r.2
|0,num,a,l,r,h=>by
  rw[entries] at h;cases h;simp only;omega
|n+1,num,a,l,r,h=>by
  rw[entries] at h;cases he:entry s a num with
 |none=>rw[he] at h;cases h
 |some e=>
   rw[he] at h;simp only at h;have h1:=entry_adv (x:=e.1) (t:=e.2) he;cases hl:lay l e.1 with
  |none=>rw[hl] at h;cases h
  |some y=>
    rw[hl] at h;simp only at h;have h2:=lay_len hl;have h3:=entries_len n (num+1) e.2 y r h;omega
theorem slots_len {s:List UInt8}:∀(m:Nat) (a:Int) (l:List Slt) (r:List Slt×Int),slots s m a l=some r→(r.1.length:Int)≤l.length+(r.2 - a)∧a≤r.2∧r.2≤s.length
|0,a,l,r,h=>by rw[slots] at h;cases h
|m+1,a,l,r,h=>by
  rw[slots] at h;cases hw:word s a trailW with
 |some t=>
   rw[hw] at h;simp only at h;cases h;have:=word_adv hw;simp only;omega
 |none=>
   rw[hw] at h;simp only at h;cases hf:number s a 0 8191 with
  |none=>rw[hf] at h;cases h
  |some f=>
    rw[hf] at h;simp only at h;have h1:=num_adv (n:=f.1) (t:=f.2) hf;cases hc:number s f.2 0 (8192 - f.1) with
   |none=>rw[hc] at h;cases h
   |some c=>
     rw[hc] at h;simp only at h;have h2:=num_adv (n:=c.1) (t:=c.2) hc;cases he:entries s c.1.toNat f.1 c.2 l with
    |none=>rw[he] at h;cases h
    |some q=>
      rw[he] at h;simp only at h;have h3:=entries_len _ _ _ _ _ he;have h4:=slots_len m q.2 q.1 r h;omega
theorem read_len (s:List UInt8)(a:Int):(read s a).1.slots.length≤s.length∧(read s a).1.trailer.wt≤40000*s.length+1000:=by
 have hb:bad.1.slots.length≤s.length∧bad.1.trailer.wt≤40000*s.length+1000:=by
  have:bad.1.trailer.wt≤1000:=by decide +kernel
  have:bad.1.slots.length=0:=rfl;omega
 unfold read;split
 ·exact hb
 split
 ·exact hb
 rename_i t hw
 have h1:=word_adv hw;cases hs:slots s (s.length+1) t [] with
|none=>exact hb
|some r=>
  have h2:=slots_len _ _ _ _ hs;simp only[List.length_nil] at h2;simp only;unfold finish;split
  ·exact hb
  rename_i hn
  simp only[not_or,Classical.not_not] at hn;split
  ·have hz:=hn.1;have hw:(Ps.object s r.2).1.wt≤40000*s.length:=by
    unfold Ps.object at hz ⊢;split at hz
    ·simp[Ps.bad] at hz
    ·rename_i hq
     rw[if_neg hq];have h1:=Ps.obj_wt s 24 r.2 hz;have h2:=Ps.obj_bd hz;omega
   simp only;omega
  ·exact hb
end Tl
end
section
open Eng Go.RowKit
theorem secEq_refl (x:Sec):secEq x x=true:=by
 unfold secEq;simp[Ob.eqb_iff]
theorem tableReads_ret (s:List UInt8)(a:Int)(W:World)(ht:Tb W):Ret prog 3 #[.string ⟨s.toArray⟩,.int .i64 a] W (fun v w'=>v=.bool true∧Below W.heap.size W w'):=by
 refine ret_of fun K hK=>S_foliantlaw18_TableReads_ok ?_;unfold S_foliantlaw18_TableReads;rw[s_len Tryz.underlying9];simp only[rs];by_cases hl:(3000:Int) < (s.length:Int)
 ·simp only[decide_eq_true hl,i_t];refine c_ret (lives18_ret W ht) ?_;rintro _ w ⟨rfl,hb⟩;exact hK _ _ ⟨rfl,hb⟩
 simp only[decide_eq_false hl,i_f];have hM:(Mem.all W).has W:=Mem.all_has W;have hlen:=Tl.read_len s a;refine c_mem (OwnS.memS hM) 0 rfl (tread_ret s a (Mem.all W) W (by omega) hM) ?_;rintro _ N1 w1 h1 ⟨_,rfl,vs,vk,vc,rfl,hsl,hov⟩ ho;have ho:OwnS (Mem.all W).A W w1 [.mem N1]:=ho;simp only[ex];refine o_sea ho fun b5 w2 ho=>?_;refine se_put (y:=(Tl.read s a).1) 0 hsl.one hov.oneK hov.oneC ho rfl fun w3 ho=>?_;have ho:OwnS (Mem.all W).A W w3 [secE b5 (Tl.read s a).1 vs vk vc,.mem N1]:=ho;refine c_mem ho 1 rfl (rread18_ret s a N1 w3 (by omega) (ho.hasM 1 rfl)) ?_;rintro _ N2 w4 h2 ⟨_,rfl,us,uk,uc,rfl,hsl2,hov2⟩ ho;simp only[ex];refine o_sea ho fun b8 w5 ho=>?_;refine se_put (y:=(Tl.read s a).1) 0 hsl2.one hov2.oneK hov2.oneC ho rfl fun w6 ho=>?_;have ho:OwnS (Mem.all W).A W w6 [secE b8 (Tl.read s a).1 us uk uc,secE b5 (Tl.read s a).1 vs vk vc,.mem N2]:=ho;rw[se_v ho 1 rfl,se_v ho 0 rfl];refine c_below ho (R:=fun v=>v=.bool (secEq (Tl.read s a).1 (Tl.read s a).1)) (rsame18_ret _ _ _ _ N2 w6 (by omega) (by omega) (ho.hasM 2 rfl) ⟨vs,vk,vc,rfl,hsl.le h2,hov.le h2⟩ ⟨us,uk,uc,rfl,hsl2,hov2⟩) ?_;rintro _ w7 rfl ho;rw[secEq_refl];have hle:=h1.trans h2;have ht7:Tb w7:=ht.mono (ho.toGives 2 rfl hle hM).below;simp only[rs,decide_true];refine c_below ho (R:=fun v=>v=.bool true) (lives18_ret w7 ht7) ?_;rintro _ w8 rfl ho
 try simp only[rs]
 exact hK _ _ ⟨rfl,(ho.toGives 2 rfl hle hM).below⟩
end
end Go.Proofs.YtjloddgofmdmgaaGreatDoor



