/- Texts put together. No condition beyond those that each theorem says. -/
import Derived.Test.YtjhapicamnijnaaGreatJ3
import Derived.Test.YtjhapicamnijnaaGreatLibP
import Derived.Test.YtjhapicamnijnaaGreatJ0
namespace Go.Proofs.YtjhapicamnijnaaGreat
open Go Go.Gm
set_option linter.unusedVariables false
set_option linter.unusedSimpArgs false
set_option maxHeartbeats 4000000
set_option maxRecDepth 8000
theorem Zdz (g:Zn) (hs:ZaK g):FnP Tryz.prog 16 [.agg (Zj g)] (.bool (decide (Zx g))):=by
 refine FnP.mk Tryz.func16 rfl Tryz.ntmps16 rfl ?_
 intro B a w F hB hfr hS
 have hsl:=hs.1.1
 have hso:=hs.2.1
 refine wp_seq ?_
 refine Zc hS (qx 101 r1 qB) hB [2,1] [101,0] (fun _=>rfl) (fun _=>rfl) fun τ a w F hS=>?_
 try dsimp only [RS.sub,SF.sub,CF.sub,csub,Anc.sub,List.map,zCF,Zj,rTx,Zs,Zv,rInt,rOp] at hS
 generalize τ 1=v1 at hS
 refine Za (wp_seq (wp_seq ?_))
 refine Zb hS (qg 0 101 r1 r1 (qa 101 r1 r1 (qu Tryz.underlying22 r1 (qf (ZaR .t qi) r1 qz qZ)))) hB [11,2,1] [101,0] rfl rfl fun a w F hS=>Za ?_
 refine Zd hS rfl (fun hc0=>?_) (fun hc0=>?_)
 ·skip
  have hg:=ZcQ (h:=g) (by simp at hc0;omega)
  refine wp_seq ?_
  refine Zb hS qB hB [2,1] [101,0] rfl rfl fun a w F hS=>Za (wp_ret (Zg ?_))
  refine Zr hfr hS rfl rfl rfl (.bool hg)
 have hlong:g.txs.length≤4096:=by simp at hc0;omega
 refine wp_skip (Za (wp_seq (wp_seq ?_)))
 refine Zb hS (qg 0 101 r1 r1 (qa 101 r1 r1 (qu Tryz.underlying22 r1 (qJ qZ)))) hB [15,14,13,2,1] [101,0] rfl rfl fun a w F hS=>Za (wp_block ?_)
 refine Zl (σ:=(Nat)) [1,2,13,14] [0,101] (fun s=>[(15,.pv (.int .i64 (s:Int)))]) (fun s=>[]) (fun s=>s≤g.txs.length∧(∀ k,k<s→Zjk g k)) (fun s=>g.txs.length - s) (0) hS ⟨rfl,rfl,rfl,rfl,rfl,trivial⟩ ⟨rfl,rfl,trivial⟩ ⟨Nat.zero_le _,fun k hk=>absurd hk (Nat.not_lt_zero k)⟩ ?_
 clear hS;intro i a w F hC hS
 try dsimp only at hC
 obtain ⟨F,hS⟩:=hS.nm [15,14,13,2,1] [101,0] rfl rfl
 try dsimp only at hS
 obtain ⟨hi,hq⟩:=hC
 have hxl:=fun hil:i<g.txs.length=>hs.1.at hil
 have hiw:0<i→IntKind.wrap .i64 ((i:Int) - 1)=((i - 1:Nat):Int):=fun h0=>by rw [ZP (by omega)];omega
 refine wp_seq ?_
 refine Zb hS (qL r2) hB [16,15,14,13,2,1] [101,0] rfl rfl fun a w F hS=>Za (wp_seq ?_)
 refine Zd hS rfl (fun hc1=>?_) (fun hc1=>?_)
 ·skip
  have hil:i<g.txs.length:=by simp at hc1;omega
  refine wp_skip (Za (wp_seq (wp_block (wp_seq ?_))))
  refine Zc hS (qM rfl rfl (qy 3 Tryz.underlying22 r2 (qf (oR true 3 .t) r1 qz (qf (oH [.int .i64 0,.bool false,.slice none 0 0] 102) trivial qz (qN rfl rfl (qS 3 102 r2 r1 qZ)))))) hB [15,14,13,4,3,2,1] [102,101,0] (fun _=>rfl) (fun _=>rfl) fun τ a w F hS=>?_
  try dsimp only [RS.sub,SF.sub,CF.sub,csub,Anc.sub,List.map,Zf,xL,xM,Nat.reduceAdd,xD,xE,xT,xU,xC,xN,zCF,ldSF,Zj,rTx,Zs,Zv,rInt,rOp] at hS
  generalize τ 4=v4 at hS
  try simp only [Int.toNat_natCast] at hS
  refine Za (wp_seq ?_)
  refine ZE hS (qM rfl rfl (qf (ZaR .t qi) r1 qz (qM rfl rfl (qv 0 101 rfl r2 r1 (qw 101 rfl r2 r1 (qm rfl rfl rfl rfl (qk rfl (fun h=>o_sub (.w h) qi) r2 qz (qk rfl (fun h=>Z3 (sz:=3) (.mk Tryz.underlying22 (by kernel_rfl)) (by intro x;rfl) (.w h) (.w h) (by rw [hiw (by simpa using h)];omega) (by rw [hiw (by simpa using h)];omega)) r3 qz (qk rfl (fun h=>oG 0 (.w h)) r2 qz (qk rfl (fun h=>oR false 1 (.w h)) r2 qz (qv 0 102 rfl r2 r1 (qw 102 rfl r2 r1 (qk rfl (fun h=>ZbF (.w h) (.w h)) r3 qz (qf (Zy .t .t) r2 qz (qM rfl rfl (qk rfl (fun h=>oL true 3 102 .is) r2 r1 (qk rfl (fun h=>oP (Zhm (Go.Gm.nth g.txs i)) Tryz.func43 (Args.one (.pagg (.w h)))) r2 qz (qk rfl (fun h=>o_neq (.w h) qi) r2 qz (qf (ZaI .t .t) r2 qz (qM rfl rfl (qk rfl (fun h=>oL true 2 101 .is) r2 r1 (qk rfl (fun h=>oL true 3 102 .is) r2 r1 (qk rfl (fun h=>oP (ZiS g (Go.Gm.nth g.txs i) hs.1 (by have:=hxl hil;omega)) Tryz.func44 (Args.two (.pagg (.w h)) (.pagg (.w h)))) r3 qz (qk rfl (fun h=>o_not (.w h)) r2 qz (qf (ZaI .t .t) r2 qz qZ))))))))))))))))))))))))) hB [44,15,14,13,2,1] [102,101,0] rfl rfl fun a w F hS=>?_
  try dsimp only [List.map,xD,xE,xT,xU,ldSF,Zj,rTx,Zs,Zv,rInt,rOp] at hS
  try simp only [Int.toNat_natCast] at hS
  refine Za ?_
  refine Zd hS rfl (fun hc2=>?_) (fun hc2=>?_)
  ·skip
   have hbad:¬ Zjk g i:=by
     rintro ⟨g1,g2,g3⟩
     have h9:=hc2
     by_cases hi0:0<i
     · rw [hiw hi0,Int.toNat_natCast] at h9
       have:=g1 hi0
       simp [g2,g3] at h9
       omega
     · have hi1:i=0:=by omega
       subst hi1
       simp [g2,g3] at h9
   have hg:=Zea hil hbad
   refine wp_seq ?_
   refine Zb hS qB hB [15,14,13,2,1] [102,101,0] rfl rfl fun a w F hS=>Za (wp_ret (Zm (Zg (Zg (Zm (Zg ?_))))))
   refine Zr hfr hS rfl rfl rfl (.bool hg)
  have hgood:Zjk g i:=by
    have h9:=hc2
    by_cases hi0:0<i
    · rw [hiw hi0,Int.toNat_natCast] at h9
      simp at h9
      exact ⟨fun _=>by omega,by omega,h9.2⟩
    · have hi1:i=0:=by omega
      subst hi1
      simp at h9
      exact ⟨fun h0=>absurd h0 (Nat.lt_irrefl 0),h9.1,h9.2⟩
  refine wp_skip (Zi (Za ?_))
  refine Zb hS (qp r1 (qM rfl rfl qZ)) hB [15,14,13,2,1] [102,101,0] rfl rfl fun a w F hS=>Za ?_
  replace hS:=hS.ent (i:=15) (s':=.pv (.int .i64 ((i+1:Nat):Int))) rfl (.int (Ze (by omega)))
  obtain ⟨F,hS⟩:=hS.nm [14,13,2,1,15] [101,0] rfl rfl
  exact ⟨(i+1),F,⟨by omega,(fun k hk=>by rcases Nat.lt_or_eq_of_le (Nat.le_of_lt_succ hk) with h9 | h9;exact hq k h9;rw [h9];exact hgood)⟩,hS,by omega⟩
 have hil:i=g.txs.length:=by simp at hc1;omega
 have hall:∀ k,k<g.txs.length→Zjk g k:=by rw [← hil];exact hq
 have hkn:=Zg2 hs.1
 refine wp_exit (Zk (Zk (Zq (Za (wp_seq ?_)))))
 replace hS:=hS.fresh 103 rfl
 refine Zc hS (qe 2 101 r1 r1 (qf (ZaM 103 (Zlp g hs.1) Tryz.func45 rfl (by kernel_rfl) (Args.one (.pagg .t)) ZaF) r1 r1 (qN rfl rfl qZ))) hB [5,2,1] [103,101,0] (fun _=>rfl) (fun _=>rfl) fun τ a w F hS=>?_
 try dsimp only [RS.sub,SF.sub,CF.sub,csub,Anc.sub,List.map,xD,xE,xT,xU,ldSF,Zj,rTx,Zs,Zv,rInt,rOp] at hS
 generalize τ 47=v47 at hS
 replace hS:=hS.turn 103 rfl (r':=RS.hp (HP.ex fun s:List (GE Int (List Int))×Nat=>HP.and (WrL s.1 g.txs) (ZdC (fun l:List Int=>PV.sl rInt l) (fun _=>True) (fun n:Int=>Value.int .i64 n) s.1 s.2 v47))) (fun _ _ _ _ h=>h)
 obtain ⟨sm,hS⟩:=hS.open_ex 103 rfl
 obtain ⟨hwm,hS⟩:=hS.open_and 103 rfl
 obtain ⟨es,ck⟩:=sm
 try dsimp only at hwm hS
 replace hS:=hS.turn 103 rfl (r':=.ob (.val v47) (ZdC (fun l:List Int=>PV.sl rInt l) (fun _=>True) (fun n:Int=>Value.int .i64 n) es ck)) (fun _ _ _ _ h=>h)
 have hgw:=Zn8 hwm
 have hml:=Zn0 hwm
 obtain ⟨F,hS⟩:=hS.nm [5,2,1] [103,101,0] rfl rfl
 refine Za (wp_seq (wp_seq ?_))
 refine Zb hS (qM rfl rfl (qf (Zj4 103 Tryz.underlying78 .is (by omega)) r1 r1 (qg 1 101 r1 r1 (qa 101 r1 r1 (qu Tryz.underlying23 r1 (qf (o_neq .t .t) r2 qz qZ)))))) hB [53,5,2,1] [103,101,0] rfl rfl fun a w F hS=>Za ?_
 refine Zd hS rfl (fun hc3=>?_) (fun hc3=>?_)
 ·skip
  have hg:=Zdg (h:=g) (by simp at hc3;omega)
  refine wp_seq ?_
  refine Zb hS qB hB [5,2,1] [103,101,0] rfl rfl fun a w F hS=>Za (wp_ret (Zg ?_))
  refine Zr hfr hS rfl rfl rfl (.bool hg)
 have hle:g.orders.length=(Zaq g.txs).length:=by simp at hc3;omega
 refine wp_skip (Za (wp_seq (wp_seq ?_)))
 refine Zb hS (qg 1 101 r1 r1 (qa 101 r1 r1 (qu Tryz.underlying23 r1 (qJ qZ)))) hB [57,56,55,5,2,1] [103,101,0] rfl rfl fun a w F hS=>Za (wp_block ?_)
 refine Zl (σ:=(Nat)) [1,2,5,55,56] [0,101,103] (fun s=>[(57,.pv (.int .i64 (s:Int)))]) (fun s=>[]) (fun s=>s≤g.orders.length∧(∀ k,k<s→ZeZ g k)) (fun s=>g.orders.length - s) (0) hS ⟨rfl,rfl,rfl,rfl,rfl,rfl,trivial⟩ ⟨rfl,rfl,rfl,trivial⟩ ⟨Nat.zero_le _,fun k hk=>absurd hk (Nat.not_lt_zero k)⟩ ?_
 clear hS;intro i a w F hC hS
 try dsimp only at hC
 obtain ⟨F,hS⟩:=hS.nm [57,56,55,5,2,1] [103,101,0] rfl rfl
 try dsimp only at hS
 obtain ⟨hi,hq⟩:=hC
 have hol:=fun hil:i<g.orders.length=>hs.2.at hil
 have hwl:=fun k=>Za6 g.txs k
 have hiw:0<i→IntKind.wrap .i64 ((i:Int) - 1)=((i - 1:Nat):Int):=fun h0=>by rw [ZP (by omega)];omega
 refine wp_seq ?_
 refine Zb hS (qL r2) hB [58,57,56,55,5,2,1] [103,101,0] rfl rfl fun a w F hS=>Za (wp_seq ?_)
 refine Zd hS rfl (fun hc4=>?_) (fun hc4=>?_)
 ·skip
  have hil:i<g.orders.length:=by simp at hc4;omega
  refine wp_skip (Za (wp_seq (wp_block (wp_seq ?_))))
  refine Zc hS (qM rfl rfl (qy 2 Tryz.underlying23 r2 (qf (oR true 2 .t) r1 qz (qf (oH [.int .i64 0,.slice none 0 0] 104) trivial qz (qN rfl rfl (qS 2 104 r2 r1 qZ)))))) hB [57,56,55,7,6,5,2,1] [104,103,101,0] (fun _=>rfl) (fun _=>rfl) fun τ a w F hS=>?_
  try dsimp only [RS.sub,SF.sub,CF.sub,csub,Anc.sub,List.map,Zf,xL,xM,Nat.reduceAdd,xD,xE,xT,xU,xC,xN,zCF,ldSF,Zj,rTx,Zs,Zv,rInt,rOp] at hS
  generalize τ 7=v7 at hS
  try simp only [Int.toNat_natCast] at hS
  refine Za (wp_seq ?_)
  refine ZE hS (qM rfl rfl (qf (ZaR .t qi) r1 qz (qM rfl rfl (qv 1 101 rfl r2 r1 (qw 101 rfl r2 r1 (qm rfl rfl rfl rfl (qk rfl (fun h=>o_sub (.w h) qi) r2 qz (qk rfl (fun h=>Z3 (sz:=2) (.mk Tryz.underlying23 (by kernel_rfl)) (by intro x;rfl) (.w h) (.w h) (by rw [hiw (by simpa using h)];omega) (by rw [hiw (by simpa using h)];omega)) r3 qz (qk rfl (fun h=>oG 0 (.w h)) r2 qz (qk rfl (fun h=>oR false 1 (.w h)) r2 qz (qv 0 104 rfl r2 r1 (qw 104 rfl r2 r1 (qk rfl (fun h=>ZbF (.w h) (.w h)) r3 qz (qf (Zy .t .t) r2 qz (qM rfl rfl (qv 1 104 rfl r2 r1 (qw 104 rfl r2 r1 (qk rfl (fun h=>ZaS Tryz.underlying41 (.w h)) r2 qz (qk rfl (fun h=>o_eql (.w h) qi) r2 qz (qf (ZaI .t .t) r2 qz (qM rfl rfl (qv 1 104 rfl r2 r1 (qw 104 rfl r2 r1 (qm rfl rfl rfl rfl (qv 0 104 rfl r2 r1 (qw 104 rfl r2 r1 (qk rfl (fun h=>Zbn (ek:=(fun l:List Int=>PV.sl rInt l)) (z0:=([]:List Int)) 103 Tryz.underlying78 (Zgq Tryz.underlying3) (by kernel_rfl) (fun _ _=>ZgU) (.w h .is) (Z7.int (.w h) rfl)) r3 r1 (qk rfl (fun h=>oP (Zkz (Go.Gm.nth g.orders i).txs _ (by have:=hol hil;omega) (by rw [hgw];have:=hwl (Go.Gm.nth g.orders i).key;omega)) Tryz.func46 (Args.two (.w h) (.w h))) r3 qz (qk rfl (fun h=>o_not (.w h)) r2 qz (qf (ZaI .t .t) r2 qz qZ)))))))))))))))))))))))))))))) hB [91,57,56,55,5,2,1] [104,103,101,0] rfl rfl fun a w F hS=>?_
  try dsimp only [List.map,xD,xE,xT,xU,ldSF,Zj,rTx,Zs,Zv,rInt,rOp] at hS
  try simp only [Int.toNat_natCast] at hS
  refine Za ?_
  refine Zd hS rfl (fun hc5=>?_) (fun hc5=>?_)
  ·skip
   have hbad:¬ ZeZ g i:=by
     rintro ⟨g1,g2,g3⟩
     have h9:=hc5
     rw [hgw] at h9
     have g4:(Go.Gm.nth g.orders i).txs.length≠0:=fun e=>g2 (List.eq_nil_of_length_eq_zero e)
     by_cases hi0:0<i
     · rw [hiw hi0,Int.toNat_natCast] at h9
       have:=g1 hi0
       simp [g2,g3] at h9
       omega
     · have hi1:i=0:=by omega
       subst hi1
       simp [g2,g3] at h9
   have hg:=ZfD hil hbad
   refine wp_seq ?_
   refine Zb hS qB hB [57,56,55,5,2,1] [104,103,101,0] rfl rfl fun a w F hS=>Za (wp_ret (Zm (Zg (Zg (Zm (Zg ?_))))))
   refine Zr hfr hS rfl rfl rfl (.bool hg)
  have hgood:ZeZ g i:=by
    have h9:=hc5
    rw [hgw] at h9
    by_cases hi0:0<i
    · rw [hiw hi0,Int.toNat_natCast] at h9
      simp at h9
      exact ⟨fun _=>by omega,h9.1.2,h9.2⟩
    · have hi1:i=0:=by omega
      subst hi1
      simp at h9
      exact ⟨fun h0=>absurd h0 (Nat.lt_irrefl 0),h9.1,h9.2⟩
  refine wp_skip (Zi (Za ?_))
  refine Zb hS (qp r1 (qM rfl rfl qZ)) hB [57,56,55,5,2,1] [104,103,101,0] rfl rfl fun a w F hS=>Za ?_
  replace hS:=hS.ent (i:=57) (s':=.pv (.int .i64 ((i+1:Nat):Int))) rfl (.int (Ze (by omega)))
  obtain ⟨F,hS⟩:=hS.nm [56,55,5,2,1,57] [103,101,0] rfl rfl
  exact ⟨(i+1),F,⟨by omega,(fun k hk=>by rcases Nat.lt_or_eq_of_le (Nat.le_of_lt_succ hk) with h9 | h9;exact hq k h9;rw [h9];exact hgood)⟩,hS,by omega⟩
 have hil:i=g.orders.length:=by simp at hc4;omega
 have hg:=Zik hlong hall (by omega) (by rw [← hil];exact hq)
 refine wp_exit (Zk (Zk (Zq (Za (wp_seq ?_)))))
 refine Zb hS qB hB [2] [103,101,0] rfl rfl fun a w F hS=>Za (wp_ret ?_)
 refine Zr hfr hS rfl rfl rfl (.bool hg)
def zeroH:Zn:=⟨[],[]⟩
theorem ZT {g:Zn} (h:Zx g):Zcb TxD.id g.txs∧Zcb OrdD.key g.orders:=by
 constructor
 · have hi:ZgQ (g.txs.map TxD.id):=Zgo fun i hi h0=>by
     have hi':i<g.txs.length:=by simpa using hi
     rw [ZbA (by omega),ZbA hi']
     exact (h.2.1 i hi').1 h0
   rw [ZG]
   exact List.pairwise_map.1 hi
 · have h2:=(ZcF g).2 h.2.2
   have hi:ZgQ (g.orders.map OrdD.key):=Zgo fun i hi h0=>by
     have hi':i<g.orders.length:=by simpa using hi
     rw [ZbA (by omega),ZbA hi']
     exact (h2.2 i hi').1 h0
   rw [ZG]
   exact List.pairwise_map.1 hi
def ZfB (t:TxD) (v:Zbz):Bool:=decide (v.tx=t.id) && decide ((wcnt t.ops v.key:Int)<v.nth)
def Zef (t x:TxD):Bool:=decide (x.id≠t.id) && (ZV x).any (ZfB t)
def ZdE (g:Zn) (t:TxD):Bool:=g.txs.any (Zef t)
theorem Zes {α:Type} [Inhabited α] {p:α→Bool} {l:List α} (h:∀ q,q<l.length→p (Go.Gm.nth l q)=false):l.any p=false:=by
 rw [List.any_eq_false]
 intro x hx
 obtain ⟨k,hk,e⟩:=List.getElem_of_mem hx
 have:=h k hk
 rw [Zz hk,e] at this
 simp [this]
theorem Zer {α:Type} [Inhabited α] {p:α→Bool} {l:List α} {i:Nat} (hi:i<l.length) (h:p (Go.Gm.nth l i)=true):l.any p=true:=by
 rw [List.any_eq_true]
 exact ⟨_,ZM hi,h⟩
def mayH (g:Zn) (t:TxD) (there:Int) (wanted:Bool):Int×Int:=if ¬ Zx g then (0,5) else if ZR t≠0 then (0,ZR t) else if isK TxD.id t.id g.txs≠wanted then (0,there) else if Zax g t=false then (0,6) else (lowK TxD.id t.id g.txs,0)
def Z6 (g:Zn) (t:TxD):Zn×Int:=if (mayH g t 4 false).2≠0 then (zeroH,(mayH g t 4 false).2) else if g.txs.length=4096 then (zeroH,2) else (⟨g.txs.take (lowK TxD.id t.id g.txs) ++ [t] ++ g.txs.drop (lowK TxD.id t.id g.txs),settleO t g.orders⟩,0)
def ZbE (id:Int):TxD:=⟨id,false,[]⟩
def ZY (g:Zn) (id:Int):Zn×Int:=if ¬ Zx g then (zeroH,5) else if isK TxD.id id g.txs=false then (zeroH,3) else if ZdE g (ZbE id)=true then (zeroH,7) else (⟨g.txs.take (lowK TxD.id id g.txs)++g.txs.drop (lowK TxD.id id g.txs+1),settleO (ZbE id) g.orders⟩,0)
def Zar (g:Zn) (t:TxD):Zn×Int:=if (mayH g t 3 true).2≠0 then (zeroH,(mayH g t 3 true).2) else if ZdE g t=true then (zeroH,7) else (⟨g.txs.set (lowK TxD.id t.id g.txs) t,settleO t g.orders⟩,0)
theorem Zjd {g:Zn} {t:TxD} {there:Int} {wanted:Bool} (ht:there≠0) (h:(mayH g t there wanted).2=0):Zx g∧ZR t=0∧isK TxD.id t.id g.txs=wanted∧Zax g t=true∧(mayH g t there wanted).1=lowK TxD.id t.id g.txs:=by
 unfold mayH at h ⊢
 split at h
 · simp at h
 · rename_i h1
   split at h
   · rename_i h2;exact absurd h h2
   · rename_i h2
     split at h
     · exact absurd h ht
     · rename_i h3
       split at h
       · simp at h
       · rename_i h4
         rw [if_neg h1,if_neg h2,if_neg h3,if_neg h4]
         exact ⟨Decidable.not_not.1 h1,Decidable.not_not.1 h2,Decidable.not_not.1 h3,by simpa using h4,rfl⟩
theorem Zc3 {α:Type} [Inhabited α] {κ:α→Int} {k:Int} {l:List α} (hs:Zcb κ l) (h:isK κ k l=true):lowK κ k l<l.length∧κ (Go.Gm.nth l (lowK κ k l))=k:=by
 obtain ⟨x,hx,hk⟩:=List.any_eq_true.1 h
 obtain ⟨q,hq,e⟩:=List.getElem_of_mem hx
 have hk':κ (Go.Gm.nth l q)=k:=by rw [Zz hq,e];simpa using hk
 have hl:=Zgj (κ:=κ) (k:=k) (l:=l) (i:=q) (Nat.le_of_lt hq) (fun p hp=>by have:=hs p q hp hq;omega) (fun p hp hp2=>by have:=ZeM hs hp hp2;omega)
 rw [hl]
 exact ⟨hq,hk'⟩
theorem ZkN (g:Zn) (t:TxD) (hs:Zai g.txs) (ht:t.ops.length≤1000):FnP Tryz.prog 122 [.agg (Zj g),.agg (rTx t)] (.bool (ZdE g t)):=by
 refine FnP.mk Tryz.func122 rfl Tryz.ntmps122 rfl ?_
 intro B a w F hB hfr hS
 have hsl:=hs.1
 have hnl:∀ x:TxD,x.ops.length≤1000→(ZV x).length≤1000:=fun x hx=>by have:=ZbR x.id x.ops x.ops.length;rw [List.take_length] at this;unfold ZV;omega
 refine wp_seq ?_
 refine Zc hS (qx 101 r1 (qx 102 r1 qB)) hB [4,3,2] [102,101,0] (fun _=>rfl) (fun _=>rfl) fun τ a w F hS=>?_
 try dsimp only [RS.sub,SF.sub,CF.sub,csub,Anc.sub,List.map,zCF,Zj,rTx,Zs,Zv,rInt,rOp] at hS
 generalize τ 2=v2 at hS
 generalize τ 3=v3 at hS
 refine Za (wp_seq (wp_seq ?_))
 refine Zb hS (qg 0 101 r1 r1 (qa 101 r1 r1 (qu Tryz.underlying22 r1 (qJ qZ)))) hB [12,11,10,4,3] [102,101,0] rfl rfl fun a w F hS=>Za (wp_block ?_)
 refine Zl (σ:=(Nat)) [3,4,10,11] [0,101,102] (fun s=>[(12,.pv (.int .i64 (s:Int)))]) (fun s=>[]) (fun s=>s≤g.txs.length∧(∀ q,q<s→Zef t (Go.Gm.nth g.txs q)=false)) (fun s=>g.txs.length - s) (0) hS ⟨rfl,rfl,rfl,rfl,rfl,trivial⟩ ⟨rfl,rfl,rfl,trivial⟩ ⟨Nat.zero_le _,fun q hq=>absurd hq (Nat.not_lt_zero q)⟩ ?_
 clear hS;intro i a w F hC hS
 try dsimp only at hC
 obtain ⟨F,hS⟩:=hS.nm [12,11,10,4,3] [102,101,0] rfl rfl
 try dsimp only at hS
 obtain ⟨hi,hq⟩:=hC
 refine wp_seq ?_
 refine Zb hS (qL r2) hB [13,12,11,10,4,3] [102,101,0] rfl rfl fun a w F hS=>Za (wp_seq ?_)
 refine Zd hS rfl (fun hc0=>?_) (fun hc0=>?_)
 ·skip
  have hil:i<g.txs.length:=by simp at hc0;omega
  have hio:=hil
  have hqo:=hq
  have hnl2:=hnl (Go.Gm.nth g.txs i) (by have:=hs.at hio;omega)
  refine wp_skip (Za (wp_seq (wp_block (wp_seq ?_))))
  refine Zc hS (qy 3 Tryz.underlying22 r2 (qf (oR true 3 .t) r1 qz (qf (oH [.int .i64 0,.bool false,.slice none 0 0] 103) trivial qz (qS 3 103 r2 r1 qZ)))) hB [12,11,10,6,4,3] [103,102,101,0] (fun _=>rfl) (fun _=>rfl) fun τ a w F hS=>?_
  try dsimp only [RS.sub,SF.sub,CF.sub,csub,Anc.sub,List.map,Zf,xL,xM,Nat.reduceAdd,xD,xE,xT,xU,xC,xN,zCF,ldSF,Zj,rTx,Zs,Zv,rInt,rOp] at hS
  generalize τ 6=v6 at hS
  try simp only [Int.toNat_natCast] at hS
  refine Za (wp_seq ?_)
  refine Zb hS (qe 3 103 r1 r1 (qf (oP (Zhg (Go.Gm.nth g.txs i) (by have:=hs.at hio;omega)) Tryz.func99 (Args.one (.pagg .t))) r1 qz (qu Tryz.underlying126 r1 (qJ qZ)))) hB [19,18,17,12,11,10,6,4,3] [103,102,101,0] rfl rfl fun a w F hS=>Za (wp_block ?_)
  refine Zl (σ:=(Nat)) [3,4,6,10,11,12,17,18] [0,101,102,103] (fun s=>[(19,.pv (.int .i64 (s:Int)))]) (fun s=>[]) (fun s=>s≤(ZV (Go.Gm.nth g.txs i)).length∧((Go.Gm.nth g.txs i).id≠t.id → ∀ q,q<s→ZfB t (Go.Gm.nth (ZV (Go.Gm.nth g.txs i)) q)=false)) (fun s=>(ZV (Go.Gm.nth g.txs i)).length - s) (0) hS ⟨rfl,rfl,rfl,rfl,rfl,rfl,rfl,rfl,rfl,trivial⟩ ⟨rfl,rfl,rfl,rfl,trivial⟩ ⟨Nat.zero_le _,fun _ q hq=>absurd hq (Nat.not_lt_zero q)⟩ ?_
  clear hS;intro j a w F hC hS
  try dsimp only at hC
  obtain ⟨F,hS⟩:=hS.nm [19,18,17,12,11,10,6,4,3] [103,102,101,0] rfl rfl
  try dsimp only at hS
  obtain ⟨hi,hq⟩:=hC
  have hq2:=hq
  refine wp_seq ?_
  refine Zb hS (qL r2) hB [20,19,18,17,12,11,10,6,4,3] [103,102,101,0] rfl rfl fun a w F hS=>Za (wp_seq ?_)
  refine Zd hS rfl (fun hc1=>?_) (fun hc1=>?_)
  ·skip
   have hil:j<(ZV (Go.Gm.nth g.txs i)).length:=by simp at hc1;omega
   have hjo:=hil
   refine wp_skip (Za (wp_seq (wp_block (wp_seq ?_))))
   refine Zc hS (qy 3 Tryz.underlying126 r2 (qf (oR true 3 .t) r1 qz (qf (oH [.int .i64 0,.int .i64 0,.int .i64 0] 104) trivial qz (qS 3 104 r2 r1 qZ)))) hB [19,18,17,12,11,10,8,6,4,3] [104,103,102,101,0] (fun _=>rfl) (fun _=>rfl) fun τ a w F hS=>?_
   try dsimp only [RS.sub,SF.sub,CF.sub,csub,Anc.sub,List.map,Zf,xL,xM,Nat.reduceAdd,xD,xE,xT,xU,xC,xN,zCF,ldSF,Zj,rTx,Zs,Zv,rInt,rOp] at hS
   generalize τ 8=v8 at hS
   try simp only [Int.toNat_natCast] at hS
   refine Za (wp_seq ?_)
   refine ZE hS (qg 0 103 r1 r1 (qa 103 r1 r1 (qg 0 102 r1 r1 (qa 102 r1 r1 (qf (o_neq .t .t) r2 qz (qM rfl rfl (qv 0 104 rfl r2 r1 (qw 104 rfl r2 r1 (qv 0 102 rfl r2 r1 (qw 102 rfl r2 r1 (qk rfl (fun h=>o_eql (.w h) (.w h)) r3 qz (qf (Zy .t .t) r2 qz (qM rfl rfl (qv 2 104 rfl r2 r1 (qw 104 rfl r2 r1 (qk rfl (fun h=>oL true 3 102 .is) r2 r1 (qv 1 104 rfl r2 r1 (qw 104 rfl r2 r1 (qk rfl (fun h=>oP (Zfi t (Go.Gm.nth (ZV (Go.Gm.nth g.txs i)) j).key (by omega)) Tryz.func161 (Args.two (.pagg (.w h)) (.w h))) r3 qz (qk rfl (fun h=>ZaR (.w h) (.w h)) r3 qz (qf (Zy .t .t) r2 qz qZ))))))))))))))))))))) hB [43,19,18,17,12,11,10,6,4,3] [104,103,102,101,0] rfl rfl fun a w F hS=>?_
   try dsimp only [List.map,xD,xE,xT,xU,ldSF,Zj,rTx,Zs,Zv,rInt,rOp] at hS
   refine Za ?_
   refine Zd hS rfl (fun hc2=>?_) (fun hc2=>?_)
   ·skip
    have hg:true=ZdE g t:=(Zer hio (by
      have h9:=hc2
      simp at h9
      unfold Zef
      rw [decide_eq_true h9.1.1,Bool.true_and]
      refine Zer hjo ?_
      unfold ZfB wcnt
      simp [h9.1.2]
      first | exact h9.2 | (have:=h9.2;omega))).symm
    refine wp_seq ?_
    refine Zb hS qB hB [19,18,17,12,11,10,6,4,3] [104,103,102,101,0] rfl rfl fun a w F hS=>Za (wp_ret (Zm (Zg (Zg (Zm (Zm (Zg (Zg (Zm (Zg ?_))))))))))
    refine Zr hfr hS rfl rfl rfl (.bool hg)
   have hnv:(Go.Gm.nth g.txs i).id≠t.id→ZfB t (Go.Gm.nth (ZV (Go.Gm.nth g.txs i)) j)=false:=by
     intro hne
     have h9:=hc2
     unfold ZfB wcnt
     simp [hne] at h9 ⊢
     first | exact h9 | (intro e;have:=h9 e;omega)
   refine wp_skip (Zi (Za ?_))
   refine Zb hS (qp r1 (qM rfl rfl qZ)) hB [19,18,17,12,11,10,6,4,3] [104,103,102,101,0] rfl rfl fun a w F hS=>Za ?_
   replace hS:=hS.ent (i:=19) (s':=.pv (.int .i64 ((j+1:Nat):Int))) rfl (.int (Ze (by omega)))
   obtain ⟨F,hS⟩:=hS.nm [18,17,12,11,10,6,4,3,19] [103,102,101,0] rfl rfl
   exact ⟨(j+1),F,⟨by omega,(fun hne q h9=>by rcases Nat.lt_or_eq_of_le (Nat.le_of_lt_succ h9) with h8 | h8;exact hq2 hne q h8;rw [h8];exact hnv hne)⟩,hS,by omega⟩
  have hil:j=(ZV (Go.Gm.nth g.txs i)).length:=by simp at hc1;omega
  have hno:Zef t (Go.Gm.nth g.txs i)=false:=by
    unfold Zef
    by_cases hne:(Go.Gm.nth g.txs i).id≠t.id
    · rw [Zes (by rw [← hil];exact hq2 hne),Bool.and_false]
    · rw [decide_eq_false hne,Bool.false_and]
  refine wp_exit (Zk (Zk (Zq (Zi (Za ?_)))))
  refine Zb hS (qp r1 (qM rfl rfl qZ)) hB [12,11,10,4,3] [103,102,101,0] rfl rfl fun a w F hS=>Za ?_
  replace hS:=hS.ent (i:=12) (s':=.pv (.int .i64 ((i+1:Nat):Int))) rfl (.int (Ze (by omega)))
  obtain ⟨F,hS⟩:=hS.nm [11,10,4,3,12] [102,101,0] rfl rfl
  exact ⟨(i+1),F,⟨by omega,(fun q h9=>by rcases Nat.lt_or_eq_of_le (Nat.le_of_lt_succ h9) with h8 | h8;exact hqo q h8;rw [h8];exact hno)⟩,hS,by omega⟩
 have hil:i=g.txs.length:=by simp at hc0;omega
 have hg:false=ZdE g t:=(Zes (by rw [← hil];exact hq)).symm
 refine wp_exit (Zk (Zk (Zq (Za (wp_seq ?_)))))
 refine Zb hS qB hB [4] [102,101,0] rfl rfl fun a w F hS=>Za (wp_ret ?_)
 refine Zr hfr hS rfl rfl rfl (.bool hg)
theorem Zn1 (g:Zn) (t:TxD) (there:Int) (wanted:Bool) (hs:ZaK g) (ht:t.ops.length≤1000):FnP Tryz.prog 118 [.agg (Zj g),.agg (rTx t),.int .i64 there,.bool wanted] (.tup [.int .i64 (mayH g t there wanted).1,.int .i64 (mayH g t there wanted).2]):=by
 refine FnP.mk Tryz.func118 rfl Tryz.ntmps118 rfl ?_
 intro B a w F hB hfr hS
 have hsl:=hs.1.1
 refine wp_seq ?_
 refine Zc hS (qx 101 r1 (qx 102 r1 (qI (qI qZ)))) hB [9,8,5,4,3,2] [102,101,0] (fun _=>rfl) (fun _=>rfl) fun τ a w F hS=>?_
 try dsimp only [RS.sub,SF.sub,CF.sub,csub,Anc.sub,List.map,zCF,Zj,rTx,Zs,Zv,rInt,rOp] at hS
 generalize τ 4=v4 at hS
 generalize τ 5=v5 at hS
 refine Za (wp_seq (wp_seq ?_))
 refine Zb hS (qe 2 101 r1 r1 (qf (oP (Zdz g hs) Tryz.func16 (Args.one (.pagg .t))) r1 qz (qf (o_not .t) r1 qz qZ))) hB [15,9,8,5,4,3,2] [102,101,0] rfl rfl fun a w F hS=>Za ?_
 refine Zd hS rfl (fun hc0=>?_) (fun hc0=>?_)
 ·skip
  have hr:¬ Zx g:=by simpa using hc0
  have hg:mayH g t there wanted=(0,5):=by unfold mayH;rw [if_pos hr]
  refine wp_seq ?_
  refine Zb hS (qI (qI qZ)) hB [9,8,5,4,3,2] [102,101,0] rfl rfl fun a w F hS=>Za (wp_ret (Zg ?_))
  refine ZA hfr hS rfl (.tmp rfl (.tmp rfl .nil)) (.two (.int (by rw [hg])) (.int (by rw [hg])))
 have hr:Zx g:=by simpa using hc0
 have hrr:=ZT hr
 refine wp_skip (Za (wp_seq (wp_seq ?_)))
 refine Zb hS (qe 3 102 r1 r1 (qf (oP (Zhm t) Tryz.func43 (Args.one (.pagg .t))) r1 qz (qN rfl rfl qZ))) hB [10,9,8,5,4,3,2] [102,101,0] rfl rfl fun a w F hS=>Za (wp_seq ?_)
 refine Zb hS (qM rfl rfl (qf (o_neq .t qi) r1 qz qZ)) hB [19,10,9,8,5,4,3,2] [102,101,0] rfl rfl fun a w F hS=>Za ?_
 refine Zd hS rfl (fun hc1=>?_) (fun hc1=>?_)
 ·skip
  have hrt:ZR t≠0:=by simpa using hc1
  have hg:mayH g t there wanted=(0,ZR t):=by unfold mayH;rw [if_neg (Decidable.not_not.2 hr),if_pos hrt]
  refine wp_seq ?_
  refine Zb hS (qM rfl rfl (qI (qN rfl rfl qZ))) hB [9,8,5,4,3,2] [102,101,0] rfl rfl fun a w F hS=>Za (wp_ret (Zg ?_))
  refine ZA hfr hS rfl (.tmp rfl (.tmp rfl .nil)) (.two (.int (by rw [hg])) (.int (by rw [hg])))
 have hrt:¬ ZR t≠0:=by simpa using hc1
 refine wp_skip (Za (wp_seq ?_))
 refine Zb hS (qe 2 101 r1 r1 (qg 0 102 r1 r1 (qa 102 r1 r1 (qf (oP (Zlc g t.id hs.1 hrr.1) Tryz.func123 (Args.two (.pagg .t) .t)) r2 qz (qM rfl rfl (qf (o_extract .t rfl) r1 qz (qf (o_extract .t rfl) r1 qz (qN rfl rfl (qN rfl rfl qZ))))))))) hB [12,11,9,8,5,4,3,2] [102,101,0] rfl rfl fun a w F hS=>Za (wp_seq (wp_block (wp_seq ?_)))
 refine Zb hS (qM rfl rfl (qM rfl rfl (qf (ZnU Tryz.underlying4 .t .t) r2 qz (qN rfl rfl qZ)))) hB [28,11,9,8,5,4,2] [102,101,0] rfl rfl fun a w F hS=>Za ?_
 refine Zd hS rfl (fun hc2=>?_) (fun hc2=>?_)
 ·skip
  have hwt:isK TxD.id t.id g.txs≠wanted:=by simpa using hc2
  have hg:mayH g t there wanted=(0,there):=by unfold mayH;rw [if_neg (Decidable.not_not.2 hr),if_neg hrt,if_pos hwt]
  refine wp_seq ?_
  refine Zb hS (qM rfl rfl (qI (qN rfl rfl qZ))) hB [11,9,8] [102,101,0] rfl rfl fun a w F hS=>Za (wp_ret (Zm (Zg ?_)))
  refine ZA hfr hS rfl (.tmp rfl (.tmp rfl .nil)) (.two (.int (by rw [hg])) (.int (by rw [hg])))
 have hwt:¬ isK TxD.id t.id g.txs≠wanted:=by simpa using hc2
 refine wp_seq ?_
 refine Zb hS (qe 2 101 r1 r1 (qe 3 102 r1 r1 (qf (oP (ZiS g t hs.1 ht) Tryz.func44 (Args.two (.pagg .t) (.pagg .t))) r2 qz (qf (o_not .t) r1 qz (qN rfl rfl qZ))))) hB [33,11,9,8] [102,101,0] rfl rfl fun a w F hS=>Za ?_
 refine Zd hS rfl (fun hc3=>?_) (fun hc3=>?_)
 ·skip
  have hg:mayH g t there wanted=(0,6):=by unfold mayH;rw [if_neg (Decidable.not_not.2 hr),if_neg hrt,if_neg hwt,if_pos (by simpa using hc3)]
  refine wp_seq ?_
  refine Zb hS (qI (qI qZ)) hB [11,9,8] [102,101,0] rfl rfl fun a w F hS=>Za (wp_ret (Zm (Zg ?_)))
  refine ZA hfr hS rfl (.tmp rfl (.tmp rfl .nil)) (.two (.int (by rw [hg])) (.int (by rw [hg])))
 have hg:mayH g t there wanted=(((lowK TxD.id t.id g.txs:Nat):Int),0):=by unfold mayH;rw [if_neg (Decidable.not_not.2 hr),if_neg hrt,if_neg hwt,if_neg (by simpa using hc3)]
 refine wp_skip (Zi (Za (wp_seq ?_)))
 refine Zb hS (qM rfl rfl (qN rfl rfl (qI qZ))) hB [9,8] [102,101,0] rfl rfl fun a w F hS=>Za (wp_ret ?_)
 refine ZA hfr hS rfl (.tmp rfl (.tmp rfl .nil)) (.two (.int (by rw [hg])) (.int (by rw [hg])))
theorem Zkd (g:Zn) (t:TxD) (hs:ZaK g) (ht:t.ops.length≤1000):FnP Tryz.prog 55 [.agg (Zj g),.agg (rTx t)] (.tup [.agg (Zj (Z6 g t).1),.int .i64 (Z6 g t).2]):=by
 refine FnP.mk Tryz.func55 rfl Tryz.ntmps55 rfl ?_
 intro B a w F hB hfr hS
 have hsl:=hs.1.1
 refine wp_seq ?_
 refine Zc hS (qx 101 r1 (qx 102 r1 (qf (oH [.slice none 0 0,.slice none 0 0] 103) trivial qz (qI qZ)))) hB [5,4,3,2] [103,102,101,0] (fun _=>rfl) (fun _=>rfl) fun τ a w F hS=>?_
 try dsimp only [RS.sub,SF.sub,CF.sub,csub,Anc.sub,List.map,zCF,Zj,rTx,Zs,Zv,rInt,rOp] at hS
 generalize τ 2=v2 at hS
 generalize τ 3=v3 at hS
 generalize τ 4=v4 at hS
 refine Za (wp_seq ?_)
 refine Zb hS (qe 2 101 r1 r1 (qe 3 102 r1 r1 (qf (oP (Zn1 g t 4 false hs ht) Tryz.func118 (Args.four (.pagg .t) (.pagg .t) qi .cb)) r2 qz (qM rfl rfl (qf (o_extract .t rfl) r1 qz (qf (o_extract .t rfl) r1 qz (qN rfl rfl (qN rfl rfl qZ)))))))) hB [7,6,5,4,3,2] [103,102,101,0] rfl rfl fun a w F hS=>Za (wp_seq (wp_block (wp_seq ?_)))
 refine Zb hS (qM rfl rfl (qf (o_neq .t qi) r1 qz (qN rfl rfl qZ))) hB [15,7,6,5,4,3,2] [103,102,101,0] rfl rfl fun a w F hS=>Za ?_
 refine Zd hS rfl (fun hc0=>?_) (fun hc0=>?_)
 ·skip
  have hm:(mayH g t 4 false).2≠0:=by simpa using hc0
  have hg:Z6 g t=(zeroH,(mayH g t 4 false).2):=by unfold Z6;rw [if_pos hm]
  refine wp_seq ?_
  refine Zb hS (qf (oB [] [.slice none 0 0,.slice none 0 0] [(0,1),(1,1)] .nil) trivial qz (qM rfl rfl (qs 2 103 r2 r1 (qN rfl rfl qZ)))) hB [6,5,4,3,2] [103,102,101,0] rfl rfl fun a w F hS=>Za (wp_ret (Zm (Zg ?_)))
  refine ZA hfr hS rfl (.cl 103 true 2 rfl rfl (.tmp rfl .nil)) (.two (by rw [hg];first | exact .aggU rfl rfl | exact .aggLe rfl ⟨PVLe.nilSl,PVLe.nilSl,trivial⟩) (.int (by rw [hg])))
 have hm:¬ (mayH g t 4 false).2≠0:=by simpa using hc0
 obtain ⟨hr,hrt,hik,hnd,hlo⟩:=Zjd (by decide) (Decidable.not_not.1 hm)
 have hrr:=ZT hr
 have hlk:=Zh9 (κ:=TxD.id) (k:=t.id) g.txs
 refine wp_seq ?_
 refine Zb hS (qg 0 101 r1 r1 (qa 101 r1 r1 (qu Tryz.underlying22 r1 (qf (o_eql .t qi) r1 qz (qN rfl rfl qZ))))) hB [20,6,5,4,3,2] [103,102,101,0] rfl rfl fun a w F hS=>Za ?_
 refine Zd hS rfl (fun hc1=>?_) (fun hc1=>?_)
 ·skip
  have hg:Z6 g t=(zeroH,2):=by unfold Z6;rw [if_neg hm,if_pos (by simp at hc1;omega)]
  refine wp_seq ?_
  refine Zb hS (qf (oB [] [.slice none 0 0,.slice none 0 0] [(0,1),(1,1)] .nil) trivial qz (qs 2 103 r2 r1 (qI qZ))) hB [6,5,4,3,2] [103,102,101,0] rfl rfl fun a w F hS=>Za (wp_ret (Zm (Zg ?_)))
  refine ZA hfr hS rfl (.cl 103 true 2 rfl rfl (.tmp rfl .nil)) (.two (by rw [hg];first | exact .aggU rfl rfl | exact .aggLe rfl ⟨PVLe.nilSl,PVLe.nilSl,trivial⟩) (.int (by rw [hg])))
 have hg:Z6 g t=(⟨g.txs.take (lowK TxD.id t.id g.txs) ++ [t] ++ g.txs.drop (lowK TxD.id t.id g.txs),settleO t g.orders⟩,0):=by unfold Z6;rw [if_neg hm,if_neg (by simp at hc1;omega)]
 refine wp_skip (Zi (Za (wp_seq ?_)))
 replace hS:=hS.fresh 104 rfl
 refine Zc hS (qe 2 101 r1 r1 (qf (Zev 104 (ZgJ g hs) Tryz.func119 rfl (by kernel_rfl) (Args.one (.pagg .t))) r1 r1 (qf (oH [.slice none 0 0,.slice none 0 0] 105) trivial qz (qf (oA 2 105 .same (.conv .t (Ent.fnAgg (.fn (.fn .nil))))) r2 r1 qZ)))) hB [8,6,5,4,3] [105,104,103,102,101,0] (fun _=>rfl) (fun _=>rfl) fun τ a w F hS=>?_
 try dsimp only [RS.sub,SF.sub,CF.sub,csub,Anc.sub,List.map,Zf,xL,xM,Nat.reduceAdd,xD,xE,xT,xU,xC,xN,zCF,ldSF,Zj,rTx,Zs,Zv,rInt,rOp] at hS
 generalize τ 8=v8 at hS
 generalize τ 27=v27 at hS
 replace hS:=hS.turn 104 rfl (r':=RS.hp (HP.star [.ob (.val (cellN 0 v27)) (Zw 40 3 rTx g.txs),.ob (.val (cellN 1 v27)) (Zw 43 2 Zs g.orders)])) (fun _ _ _ _ h=>h)
 obtain ⟨F,hS⟩:=hS.peel 104 70 rfl rfl
 obtain ⟨F,hS⟩:=hS.peel 104 71 rfl rfl
 obtain ⟨F,hS⟩:=hS.nm [8,6,5,4,3] [105,103,102,101,71,70,0] rfl rfl
 generalize cellN 0 v27=va at hS
 generalize cellN 1 v27=vb at hS
 refine Za (wp_seq ?_)
 refine Zdp hS (qg 0 105 r1 r1 (qa 105 r1 r1 (qM rfl rfl (qe 3 102 r1 r1 (qf (oP (Zej t (by omega)) Tryz.func65 (Args.one (.pagg .t))) r1 qz (qf (Zh (sz:=3) (zs:=[.int .i64 0,.bool false,.slice none 0 0]) (r:=[(0,.tmp 32)]) (l:=[_,_,_]) Tryz.underlying22 (by kernel_rfl) (by kernel_rfl) (by kernel_rfl) (by kernel_rfl) rfl rfl (.agg rfl (.conv .t .agg) (by kernel_rfl) (by kernel_rfl) .nil) rfl) r1 qz (qf (Zbh 70 (ZnM va g.txs (lowK TxD.id t.id g.txs) t (by omega) hlk) Tryz.func120 rfl (by kernel_rfl) (Args.three .t (.conv .t (.int hlo)) (.conv .t (Ent.arrSl (R:=rTx) (l:=[t]) rfl))) ZaF) r3 r1 (qg 0 105 r1 r1 (qf (Zau 105 .adr (by kernel_rfl) (by kernel_rfl)) r2 r1 qZ))))))))) hB [8,5,4,3] [105,103,102,101,71,70,0] (fun _=>rfl) (fun _=>rfl) fun τ a w F hS=>?_
 try dsimp only [RS.sub,SF.sub,CF.sub,csub,Anc.sub,List.map,Zf,xL,xM,Nat.reduceAdd,xD,xE,xT,xU,xC,xN,zCF,ldSF,Zj,rTx,Zs,Zv,rInt,rOp] at hS
 generalize τ 34=v34 at hS
 refine Za (wp_seq ?_)
 replace hS:=hS.fresh 72 rfl
 obtain ⟨F,hS⟩:=hS.push 72 71 rfl rfl rfl rfl
 obtain ⟨F,hS⟩:=hS.push 72 105 rfl rfl rfl rfl
 replace hS:=hS.turn 72 rfl (r':=RS.hp (Zj3 25 43 v8 v34 g.orders)) (fun _ _ _ _ h=>⟨vb,h⟩)
 obtain ⟨F,hS⟩:=hS.nm [8,5,4,3] [103,102,101,72,70,0] rfl rfl
 refine Zb hS (qe 3 102 r1 r1 (qf (Zep 72 (Zgv v8 v34 g.orders t hs.2 hrr.2 ht) Tryz.func121 rfl (by kernel_rfl) (Args.two .t (.pagg .t))) r2 r1 qZ)) hB [8,5,4] [103,102,101,72,70,0] rfl rfl fun a w F hS=>?_
 replace hS:=hS.turn 72 rfl (r':=RS.hp (HP.ex fun vb:Value=>HP.star [.pt (.val v8) 25 [.pv (.is v34),.pv (.is vb)],.ob (.val vb) (Zw 43 2 Zs (settleO t g.orders))])) (fun _ _ _ _ h=>h)
 obtain ⟨vb2,hS⟩:=hS.open_ex 72 rfl
 obtain ⟨F,hS⟩:=hS.peel 72 73 rfl rfl
 obtain ⟨F,hS⟩:=hS.peel 72 74 rfl rfl
 obtain ⟨F,hS⟩:=hS.nm [8,5,4] [103,102,101,74,73,70,0] rfl rfl
 obtain ⟨F,hS⟩:=hS.giveCell 70 73 0 rfl rfl rfl rfl rfl
 try dsimp only [List.set] at hS
 obtain ⟨F,hS⟩:=hS.nm [8,5,4] [103,102,101,74,73,0] rfl rfl
 obtain ⟨F,hS⟩:=hS.giveCell 74 73 1 rfl rfl rfl rfl rfl
 try dsimp only [List.set] at hS
 obtain ⟨F,hS⟩:=hS.nm [8,5,4] [103,102,101,73,0] rfl rfl
 refine Za (wp_seq ?_)
 refine Zb hS (qe 2 73 r1 r1 (qs 2 103 r2 r1 (qI qZ))) hB [5,4] [103,102,101,73,0] rfl rfl fun a w F hS=>Za (wp_ret ?_)
 refine ZA hfr hS rfl (.cl 103 true 2 rfl rfl (.tmp rfl .nil)) (.two (by rw [hg];first | exact .aggU rfl rfl | exact .aggLe rfl ⟨PVLe.nilSl,PVLe.nilSl,trivial⟩) (.int (by rw [hg])))
theorem ZlD (g:Zn) (id:Int) (hs:ZaK g):FnP Tryz.prog 57 [.agg (Zj g),.int .i64 id] (.tup [.agg (Zj (ZY g id).1),.int .i64 (ZY g id).2]):=by
 refine FnP.mk Tryz.func57 rfl Tryz.ntmps57 rfl ?_
 intro B a w F hB hfr hS
 have hsl:=hs.1.1
 refine wp_seq ?_
 refine Zc hS (qx 101 r1 (qf (oH [.slice none 0 0,.slice none 0 0] 102) trivial qz (qI qZ))) hB [5,4,2,1] [102,101,0] (fun _=>rfl) (fun _=>rfl) fun τ a w F hS=>?_
 try dsimp only [RS.sub,SF.sub,CF.sub,csub,Anc.sub,List.map,zCF,Zj,rTx,Zs,Zv,rInt,rOp] at hS
 generalize τ 2=v2 at hS
 generalize τ 4=v4 at hS
 refine Za (wp_seq (wp_seq ?_))
 refine Zb hS (qe 2 101 r1 r1 (qf (oP (Zdz g hs) Tryz.func16 (Args.one (.pagg .t))) r1 qz (qf (o_not .t) r1 qz qZ))) hB [11,5,4,2,1] [102,101,0] rfl rfl fun a w F hS=>Za ?_
 refine Zd hS rfl (fun hc0=>?_) (fun hc0=>?_)
 ·skip
  have hr:¬ Zx g:=by simpa using hc0
  have hg:ZY g id=(zeroH,5):=by unfold ZY;rw [if_pos hr]
  refine wp_seq ?_
  refine Zb hS (qf (oB [] [.slice none 0 0,.slice none 0 0] [(0,1),(1,1)] .nil) trivial qz (qs 2 102 r2 r1 (qI qZ))) hB [5,4,2,1] [102,101,0] rfl rfl fun a w F hS=>Za (wp_ret (Zg ?_))
  refine ZA hfr hS rfl (.cl 102 true 2 rfl rfl (.tmp rfl .nil)) (.two (by rw [hg];first | exact .aggU rfl rfl | exact .aggLe rfl ⟨PVLe.nilSl,PVLe.nilSl,trivial⟩) (.int (by rw [hg])))
 have hr:Zx g:=by simpa using hc0
 have hrr:=ZT hr
 refine wp_skip (Za (wp_seq ?_))
 refine Zb hS (qe 2 101 r1 r1 (qM rfl rfl (qf (oP (Zlc g id hs.1 hrr.1) Tryz.func123 (Args.two (.pagg .t) .t)) r2 qz (qM rfl rfl (qf (o_extract .t rfl) r1 qz (qf (o_extract .t rfl) r1 qz (qN rfl rfl (qN rfl rfl qZ)))))))) hB [7,6,5,4,2,1] [102,101,0] rfl rfl fun a w F hS=>Za (wp_seq (wp_block (wp_seq ?_)))
 refine Zb hS (qM rfl rfl (qf (o_not .t) r1 qz (qN rfl rfl qZ))) hB [19,6,5,4,2,1] [102,101,0] rfl rfl fun a w F hS=>Za ?_
 refine Zd hS rfl (fun hc1=>?_) (fun hc1=>?_)
 ·skip
  have hik:isK TxD.id id g.txs=false:=by simpa using hc1
  have hg:ZY g id=(zeroH,3):=by unfold ZY;rw [if_neg (Decidable.not_not.2 hr),if_pos hik]
  refine wp_seq ?_
  refine Zb hS (qf (oB [] [.slice none 0 0,.slice none 0 0] [(0,1),(1,1)] .nil) trivial qz (qs 2 102 r2 r1 (qI qZ))) hB [6,5,4,2,1] [102,101,0] rfl rfl fun a w F hS=>Za (wp_ret (Zm (Zg ?_)))
  refine ZA hfr hS rfl (.cl 102 true 2 rfl rfl (.tmp rfl .nil)) (.two (by rw [hg];first | exact .aggU rfl rfl | exact .aggLe rfl ⟨PVLe.nilSl,PVLe.nilSl,trivial⟩) (.int (by rw [hg])))
 have hik:isK TxD.id id g.txs=true:=by simpa using hc1
 have hlk:=(Zc3 hrr.1 hik).1
 refine wp_seq ?_
 refine Zb hS (qe 2 101 r1 r1 (qM rfl rfl (qf (oB [(0,.tmp 25)] [.int .i64 0,.bool false,.slice none 0 0] [(0,1),(1,1),(2,1)] (.one rfl .t one_int (by kernel_rfl) .nil)) r1 qz (qf (oP (ZkN g (ZbE id) hs.1 (by simp [ZbE])) Tryz.func122 (Args.two (.pagg .t) (.conv (.pagg .t) (Ent.paggLe (l:=[.int .i64 id,.bool false,.is (.slice none 0 0)]) (l':=[.int .i64 id,.bool false,.sl rOp []]) ⟨PVLe.refl,PVLe.refl,PVLe.nilSl,trivial⟩)))) r2 qz (qN rfl rfl qZ))))) hB [23,6,5,4,2,1] [102,101,0] rfl rfl fun a w F hS=>Za ?_
 refine Zd hS rfl (fun hc2=>?_) (fun hc2=>?_)
 ·skip
  have hg:ZY g id=(zeroH,7):=by unfold ZY;rw [if_neg (Decidable.not_not.2 hr),if_neg (by rw [hik];simp),if_pos (by simpa using hc2)]
  refine wp_seq ?_
  refine Zb hS (qf (oB [] [.slice none 0 0,.slice none 0 0] [(0,1),(1,1)] .nil) trivial qz (qs 2 102 r2 r1 (qI qZ))) hB [6,5,4,2,1] [102,101,0] rfl rfl fun a w F hS=>Za (wp_ret (Zm (Zg ?_)))
  refine ZA hfr hS rfl (.cl 102 true 2 rfl rfl (.tmp rfl .nil)) (.two (by rw [hg];first | exact .aggU rfl rfl | exact .aggLe rfl ⟨PVLe.nilSl,PVLe.nilSl,trivial⟩) (.int (by rw [hg])))
 have hg:ZY g id=(⟨g.txs.take (lowK TxD.id id g.txs)++g.txs.drop (lowK TxD.id id g.txs+1),settleO (ZbE id) g.orders⟩,0):=by unfold ZY;rw [if_neg (Decidable.not_not.2 hr),if_neg (by rw [hik];simp),if_neg (by simpa using hc2)]
 refine wp_skip (Zi (Za (wp_seq ?_)))
 replace hS:=hS.fresh 103 rfl
 refine Zc hS (qe 2 101 r1 r1 (qf (Zev 103 (ZgJ g hs) Tryz.func119 rfl (by kernel_rfl) (Args.one (.pagg .t))) r1 r1 (qf (oH [.slice none 0 0,.slice none 0 0] 104) trivial qz (qf (oA 2 104 .same (.conv .t (Ent.fnAgg (.fn (.fn .nil))))) r2 r1 qZ)))) hB [8,6,5,4,1] [104,103,102,101,0] (fun _=>rfl) (fun _=>rfl) fun τ a w F hS=>?_
 try dsimp only [RS.sub,SF.sub,CF.sub,csub,Anc.sub,List.map,Zf,xL,xM,Nat.reduceAdd,xD,xE,xT,xU,xC,xN,zCF,ldSF,Zj,rTx,Zs,Zv,rInt,rOp] at hS
 generalize τ 8=v8 at hS
 generalize τ 30=v30 at hS
 replace hS:=hS.turn 103 rfl (r':=RS.hp (HP.star [.ob (.val (cellN 0 v30)) (Zw 40 3 rTx g.txs),.ob (.val (cellN 1 v30)) (Zw 43 2 Zs g.orders)])) (fun _ _ _ _ h=>h)
 obtain ⟨F,hS⟩:=hS.peel 103 70 rfl rfl
 obtain ⟨F,hS⟩:=hS.peel 103 71 rfl rfl
 obtain ⟨F,hS⟩:=hS.nm [8,6,5,4,1] [104,102,101,71,70,0] rfl rfl
 generalize cellN 0 v30=va at hS
 generalize cellN 1 v30=vb at hS
 refine Za (wp_seq ?_)
 refine Zc hS (qg 0 104 r1 r1 (qa 104 r1 r1 (qM rfl rfl (qM rfl rfl (qp r1 (qf (Zbh 70 (ZnR va g.txs (lowK TxD.id id g.txs) (by omega) hlk) Tryz.func124 rfl (by kernel_rfl) (Args.three .t .t (.conv .t (.int (Ze (by omega))))) ZaF) r3 r1 (qg 0 104 r1 r1 (qf (Zau 104 .adr (by kernel_rfl) (by kernel_rfl)) r2 r1 qZ)))))))) hB [8,5,4,1] [104,102,101,71,70,0] (fun _=>rfl) (fun _=>rfl) fun τ a w F hS=>?_
 try dsimp only [RS.sub,SF.sub,CF.sub,csub,Anc.sub,List.map,Zf,xL,xM,Nat.reduceAdd,xD,xE,xT,xU,xC,xN,zCF,ldSF,Zj,rTx,Zs,Zv,rInt,rOp] at hS
 generalize τ 36=v36 at hS
 refine Za (wp_seq ?_)
 replace hS:=hS.fresh 72 rfl
 obtain ⟨F,hS⟩:=hS.push 72 71 rfl rfl rfl rfl
 obtain ⟨F,hS⟩:=hS.push 72 104 rfl rfl rfl rfl
 replace hS:=hS.turn 72 rfl (r':=RS.hp (Zj3 25 43 v8 v36 g.orders)) (fun _ _ _ _ h=>⟨vb,h⟩)
 obtain ⟨F,hS⟩:=hS.nm [8,5,4,1] [102,101,72,70,0] rfl rfl
 refine Zb hS (qM rfl rfl (qf (oB [(0,.tmp 38)] [.int .i64 0,.bool false,.slice none 0 0] [(0,1),(1,1),(2,1)] (.one rfl .t one_int (by kernel_rfl) .nil)) r1 qz (qf (Zep 72 (Zgv v8 v36 g.orders (ZbE id) hs.2 hrr.2 (by simp [ZbE])) Tryz.func121 rfl (by kernel_rfl) (Args.two .t (.conv (.pagg .t) (Ent.paggLe (l:=[.int .i64 id,.bool false,.is (.slice none 0 0)]) (l':=[.int .i64 id,.bool false,.sl rOp []]) ⟨PVLe.refl,PVLe.refl,PVLe.nilSl,trivial⟩)))) r2 r1 qZ))) hB [8,5,4] [102,101,72,70,0] rfl rfl fun a w F hS=>?_
 replace hS:=hS.turn 72 rfl (r':=RS.hp (HP.ex fun vb:Value=>HP.star [.pt (.val v8) 25 [.pv (.is v36),.pv (.is vb)],.ob (.val vb) (Zw 43 2 Zs (settleO (ZbE id) g.orders))])) (fun _ _ _ _ h=>h)
 obtain ⟨vb2,hS⟩:=hS.open_ex 72 rfl
 obtain ⟨F,hS⟩:=hS.peel 72 73 rfl rfl
 obtain ⟨F,hS⟩:=hS.peel 72 74 rfl rfl
 obtain ⟨F,hS⟩:=hS.nm [8,5,4] [102,101,74,73,70,0] rfl rfl
 obtain ⟨F,hS⟩:=hS.giveCell 70 73 0 rfl rfl rfl rfl rfl
 try dsimp only [List.set] at hS
 obtain ⟨F,hS⟩:=hS.nm [8,5,4] [102,101,74,73,0] rfl rfl
 obtain ⟨F,hS⟩:=hS.giveCell 74 73 1 rfl rfl rfl rfl rfl
 try dsimp only [List.set] at hS
 obtain ⟨F,hS⟩:=hS.nm [8,5,4] [102,101,73,0] rfl rfl
 refine Za (wp_seq ?_)
 refine Zb hS (qe 2 73 r1 r1 (qs 2 102 r2 r1 (qI qZ))) hB [5,4] [102,101,73,0] rfl rfl fun a w F hS=>Za (wp_ret ?_)
 refine ZA hfr hS rfl (.cl 102 true 2 rfl rfl (.tmp rfl .nil)) (.two (by rw [hg];first | exact .aggU rfl rfl | exact .aggLe rfl ⟨PVLe.nilSl,PVLe.nilSl,trivial⟩) (.int (by rw [hg])))
theorem Zms (g:Zn) (t:TxD) (hs:ZaK g) (ht:t.ops.length≤1000):FnP Tryz.prog 56 [.agg (Zj g),.agg (rTx t)] (.tup [.agg (Zj (Zar g t).1),.int .i64 (Zar g t).2]):=by
 refine FnP.mk Tryz.func56 rfl Tryz.ntmps56 rfl ?_
 intro B a w F hB hfr hS
 have hsl:=hs.1.1
 refine wp_seq ?_
 refine Zc hS (qx 101 r1 (qx 102 r1 (qf (oH [.slice none 0 0,.slice none 0 0] 103) trivial qz (qI qZ)))) hB [5,4,3,2] [103,102,101,0] (fun _=>rfl) (fun _=>rfl) fun τ a w F hS=>?_
 try dsimp only [RS.sub,SF.sub,CF.sub,csub,Anc.sub,List.map,zCF,Zj,rTx,Zs,Zv,rInt,rOp] at hS
 generalize τ 2=v2 at hS
 generalize τ 3=v3 at hS
 generalize τ 4=v4 at hS
 refine Za (wp_seq ?_)
 refine Zb hS (qe 2 101 r1 r1 (qe 3 102 r1 r1 (qf (oP (Zn1 g t 3 true hs ht) Tryz.func118 (Args.four (.pagg .t) (.pagg .t) qi .cb)) r2 qz (qM rfl rfl (qf (o_extract .t rfl) r1 qz (qf (o_extract .t rfl) r1 qz (qN rfl rfl (qN rfl rfl qZ)))))))) hB [7,6,5,4,3,2] [103,102,101,0] rfl rfl fun a w F hS=>Za (wp_seq (wp_block (wp_seq ?_)))
 refine Zb hS (qM rfl rfl (qf (o_neq .t qi) r1 qz (qN rfl rfl qZ))) hB [15,7,6,5,4,3,2] [103,102,101,0] rfl rfl fun a w F hS=>Za ?_
 refine Zd hS rfl (fun hc0=>?_) (fun hc0=>?_)
 ·skip
  have hm:(mayH g t 3 true).2≠0:=by simpa using hc0
  have hg:Zar g t=(zeroH,(mayH g t 3 true).2):=by unfold Zar;rw [if_pos hm]
  refine wp_seq ?_
  refine Zb hS (qf (oB [] [.slice none 0 0,.slice none 0 0] [(0,1),(1,1)] .nil) trivial qz (qM rfl rfl (qs 2 103 r2 r1 (qN rfl rfl qZ)))) hB [6,5,4,3,2] [103,102,101,0] rfl rfl fun a w F hS=>Za (wp_ret (Zm (Zg ?_)))
  refine ZA hfr hS rfl (.cl 103 true 2 rfl rfl (.tmp rfl .nil)) (.two (by rw [hg];first | exact .aggU rfl rfl | exact .aggLe rfl ⟨PVLe.nilSl,PVLe.nilSl,trivial⟩) (.int (by rw [hg])))
 have hm:¬ (mayH g t 3 true).2≠0:=by simpa using hc0
 obtain ⟨hr,hrt,hik,hnd,hlo⟩:=Zjd (by decide) (Decidable.not_not.1 hm)
 have hrr:=ZT hr
 have hlk:=Zh9 (κ:=TxD.id) (k:=t.id) g.txs
 refine wp_seq ?_
 refine Zb hS (qe 2 101 r1 r1 (qe 3 102 r1 r1 (qf (oP (ZkN g t hs.1 ht) Tryz.func122 (Args.two (.pagg .t) (.pagg .t))) r2 qz (qN rfl rfl qZ)))) hB [20,6,5,4,3,2] [103,102,101,0] rfl rfl fun a w F hS=>Za ?_
 refine Zd hS rfl (fun hc1=>?_) (fun hc1=>?_)
 ·skip
  have hg:Zar g t=(zeroH,7):=by unfold Zar;rw [if_neg hm,if_pos (by simpa using hc1)]
  refine wp_seq ?_
  refine Zb hS (qf (oB [] [.slice none 0 0,.slice none 0 0] [(0,1),(1,1)] .nil) trivial qz (qs 2 103 r2 r1 (qI qZ))) hB [6,5,4,3,2] [103,102,101,0] rfl rfl fun a w F hS=>Za (wp_ret (Zm (Zg ?_)))
  refine ZA hfr hS rfl (.cl 103 true 2 rfl rfl (.tmp rfl .nil)) (.two (by rw [hg];first | exact .aggU rfl rfl | exact .aggLe rfl ⟨PVLe.nilSl,PVLe.nilSl,trivial⟩) (.int (by rw [hg])))
 have hlt:=(Zc3 hrr.1 hik).1
 have hg:Zar g t=(⟨g.txs.set (((mayH g t 3 true).1).toNat) t,settleO t g.orders⟩,0):=by unfold Zar;rw [if_neg hm,if_neg (by simpa using hc1),hlo,Int.toNat_natCast]
 refine wp_skip (Zi (Za (wp_seq ?_)))
 replace hS:=hS.fresh 104 rfl
 refine Zc hS (qe 2 101 r1 r1 (qf (Zev 104 (ZgJ g hs) Tryz.func119 rfl (by kernel_rfl) (Args.one (.pagg .t))) r1 r1 (qf (oH [.slice none 0 0,.slice none 0 0] 105) trivial qz (qf (oA 2 105 .same (.conv .t (Ent.fnAgg (.fn (.fn .nil))))) r2 r1 qZ)))) hB [8,6,5,4,3] [105,104,103,102,101,0] (fun _=>rfl) (fun _=>rfl) fun τ a w F hS=>?_
 try dsimp only [RS.sub,SF.sub,CF.sub,csub,Anc.sub,List.map,Zf,xL,xM,Nat.reduceAdd,xD,xE,xT,xU,xC,xN,zCF,ldSF,Zj,rTx,Zs,Zv,rInt,rOp] at hS
 generalize τ 8=v8 at hS
 generalize τ 26=v26 at hS
 replace hS:=hS.turn 104 rfl (r':=RS.hp (HP.star [.ob (.val (cellN 0 v26)) (Zw 40 3 rTx g.txs),.ob (.val (cellN 1 v26)) (Zw 43 2 Zs g.orders)])) (fun _ _ _ _ h=>h)
 obtain ⟨F,hS⟩:=hS.peel 104 70 rfl rfl
 obtain ⟨F,hS⟩:=hS.peel 104 71 rfl rfl
 obtain ⟨F,hS⟩:=hS.nm [8,6,5,4,3] [105,103,102,101,71,70,0] rfl rfl
 generalize cellN 0 v26=va at hS
 generalize cellN 1 v26=vb at hS
 refine Za (wp_seq ?_)
 refine ZE hS (qg 0 105 r1 r1 (qa 105 r1 r1 (qM rfl rfl (qe 3 102 r1 r1 (qf (oP (Zej t (by omega)) Tryz.func65 (Args.one (.pagg .t))) r1 qz (qf (o_indexAddr_row (sz:=3) 70 (.mk Tryz.underlying22 (by kernel_rfl)) .is .t (by rw [hlo];omega) (by rw [hlo];omega) (by rfl)) r2 r1 (qf (Zc4 (sz:=3) 70 .t (by intro x;rfl) (by rw [hlo];omega) .t (by kernel_rfl)) r2 r1 qZ))))))) hB [8,5,4,3] [105,103,102,101,71,70,0] rfl rfl fun a w F hS=>?_
 try dsimp only [List.map,Zf,xL,xM,Nat.reduceAdd,xD,xE,xT,xU,xC,xN,zCF,ldSF,Zj,rTx,Zs,Zv,rInt,rOp] at hS
 try simp only [Int.toNat_natCast] at hS
 refine Za (wp_seq ?_)
 replace hS:=hS.fresh 72 rfl
 obtain ⟨F,hS⟩:=hS.push 72 71 rfl rfl rfl rfl
 obtain ⟨F,hS⟩:=hS.push 72 105 rfl rfl rfl rfl
 replace hS:=hS.turn 72 rfl (r':=RS.hp (Zj3 25 43 v8 va g.orders)) (fun _ _ _ _ h=>⟨vb,h⟩)
 obtain ⟨F,hS⟩:=hS.nm [8,5,4,3] [103,102,101,72,70,0] rfl rfl
 refine Zb hS (qe 3 102 r1 r1 (qf (Zep 72 (Zgv v8 va g.orders t hs.2 hrr.2 ht) Tryz.func121 rfl (by kernel_rfl) (Args.two .t (.pagg .t))) r2 r1 qZ)) hB [8,5,4] [103,102,101,72,70,0] rfl rfl fun a w F hS=>?_
 replace hS:=hS.turn 72 rfl (r':=RS.hp (HP.ex fun vb:Value=>HP.star [.pt (.val v8) 25 [.pv (.is va),.pv (.is vb)],.ob (.val vb) (Zw 43 2 Zs (settleO t g.orders))])) (fun _ _ _ _ h=>h)
 obtain ⟨vb2,hS⟩:=hS.open_ex 72 rfl
 obtain ⟨F,hS⟩:=hS.peel 72 73 rfl rfl
 obtain ⟨F,hS⟩:=hS.peel 72 74 rfl rfl
 obtain ⟨F,hS⟩:=hS.nm [8,5,4] [103,102,101,74,73,70,0] rfl rfl
 obtain ⟨F,hS⟩:=hS.giveCell 70 73 0 rfl rfl rfl rfl rfl
 try dsimp only [List.set] at hS
 obtain ⟨F,hS⟩:=hS.nm [8,5,4] [103,102,101,74,73,0] rfl rfl
 obtain ⟨F,hS⟩:=hS.giveCell 74 73 1 rfl rfl rfl rfl rfl
 try dsimp only [List.set] at hS
 obtain ⟨F,hS⟩:=hS.nm [8,5,4] [103,102,101,73,0] rfl rfl
 refine Za (wp_seq ?_)
 refine Zb hS (qe 2 73 r1 r1 (qs 2 103 r2 r1 (qI qZ))) hB [5,4] [103,102,101,73,0] rfl rfl fun a w F hS=>Za (wp_ret ?_)
 refine ZA hfr hS rfl (.cl 103 true 2 rfl rfl (.tmp rfl .nil)) (.two (by rw [hg];first | exact .aggU rfl rfl | exact .aggLe rfl ⟨PVLe.nilSl,PVLe.nilSl,trivial⟩) (.int (by rw [hg])))
theorem Zkj (l:List Int) (j:Int):FnP Tryz.prog 155 [.sl rInt l,.int .i64 j] (.bool (decide (0≤j∧j<l.length))):=by
 refine FnP.mk Tryz.func155 rfl Tryz.ntmps155 rfl ?_
 intro B a w F hB hfr hS
 refine wp_seq ?_
 refine Zb hS qB hB [4,1,0] [0] rfl rfl fun a w F hS=>Za (wp_seq ?_)
 refine Zb hS (qM rfl rfl (qf (ZbF .t qi) r1 qz (qM rfl rfl (qm rfl rfl rfl rfl (qm rfl rfl rfl rfl (qk rfl (fun h=>ZaS Tryz.underlying41 (.w h)) r2 qz (qk rfl (fun h=>Zb3 (.w h) (.w h)) r3 qz (qf (Zy .t .t) r2 qz (qN rfl rfl qZ))))))))) hB [4] [0] rfl rfl fun a w F hS=>Za (wp_ret ?_)
 refine Zr hfr hS rfl rfl rfl (.bool (by simp))
theorem Znt (l:List Int) (j x:Int) (hl:l.length≤1000000):FnP Tryz.prog 156 [.sl rInt l,.int .i64 j,.int .i64 x] (.tup [.sl rInt (Zhs l j x),.bool (decide (0≤j∧j≤l.length))]):=by
 refine FnP.mk Tryz.func156 rfl Tryz.ntmps156 rfl ?_
 intro B a w F hB hfr hS
 refine wp_seq ?_
 refine Zb hS (qC qB) hB [7,6,2,1,0] [0] rfl rfl fun a w F hS=>Za (wp_seq (wp_seq ?_))
 refine Zb hS (qM rfl rfl (qf (Zb3 .t qi) r1 qz (qM rfl rfl (qm rfl rfl rfl rfl (qm rfl rfl rfl rfl (qk rfl (fun h=>ZaS Tryz.underlying41 (.w h)) r2 qz (qk rfl (fun h=>ZaR (.w h) (.w h)) r3 qz (qf (ZaI .t .t) r2 qz qZ)))))))) hB [16,7,6,2,1,0] [0] rfl rfl fun a w F hS=>Za ?_
 refine Zd hS rfl (fun hc0=>?_) (fun hc0=>?_)
 ·skip
  have hj:¬ (0≤j∧j≤l.length):=by simp at hc0;omega
  have hfin:l=Zhs l j x:=(if_neg hj).symm
  have hfin2:false=decide (0≤j∧j≤l.length):=(decide_eq_false hj).symm
  refine wp_seq ?_
  refine Zb hS (qM rfl rfl (qN rfl rfl qB)) hB [7,6,2,1,0] [0] rfl rfl fun a w F hS=>Za (wp_ret (Zg ?_))
  refine ZA hfr hS rfl (.tmp rfl (.tmp rfl .nil)) (.two (.sl hfin) (.bool hfin2))
 have hj:0≤j∧j≤l.length:=by simp at hc0;omega
 have hfin:[] ++ l.take j.toNat ++ [x] ++ l.drop j.toNat=Zhs l j x:=by unfold Zhs;rw [if_pos hj];simp
 have hfin2:true=decide (0≤j∧j≤l.length):=(decide_eq_true hj).symm
 refine wp_skip (Za (wp_seq ?_))
 refine Zc hS (qf (ZaB (R:=rInt) (sz:=1) 101 Tryz.underlying41 (by kernel_rfl)) trivial qz (qM rfl rfl (qM rfl rfl (qf (ZcL (sz:=1) (.mk Tryz.underlying41 (by kernel_rfl)) (by intro x;rfl) .t .t (by omega) (by omega)) r2 qz (qf (o_append (sz:=1) (bs:=8) 101 (.mk' Tryz.underlying41 (by kernel_rfl) (by kernel_rfl)) (by intro x;rfl) .same (.sl .t) (by simp only [List.length_append,List.length_cons,List.length_nil,List.length_take,List.length_drop];omega) (by decide)) ⟨rfl,rfl,trivial⟩ ⟨rfl,trivial⟩ (qN rfl rfl qZ)))))) hB [8,7,6,2,1,0] [101,0] (fun _=>rfl) (fun _=>rfl) fun τ a w F hS=>?_
 try dsimp only [RS.sub,SF.sub,CF.sub,csub,Anc.sub,List.map,Zf,xL,xM,Nat.reduceAdd,xD,xE,xT,xU,xC,xN,zCF,rInt] at hS
 generalize τ 22=v22 at hS
 refine Za (wp_seq ?_)
 refine Zc hS (qM rfl rfl (qM rfl rfl (qf (Zh (sz:=1) (zs:=[.int .i64 0]) (r:=[(0,.tmp 24)]) (l:=[_]) Tryz.underlying41 (by kernel_rfl) (by kernel_rfl) (by kernel_rfl) (by kernel_rfl) rfl rfl (.one rfl .t one_int (by kernel_rfl) .nil) rfl) r1 qz (qf (o_append (sz:=1) (bs:=8) 101 (.mk' Tryz.underlying41 (by kernel_rfl) (by kernel_rfl)) (by intro x;rfl) .is (.arr (l':=[x]) .t) (by simp only [List.length_append,List.length_cons,List.length_nil,List.length_take,List.length_drop];omega) (by decide)) ⟨rfl,rfl,trivial⟩ ⟨rfl,trivial⟩ (qN rfl rfl qZ))))) hB [8,7,6,1,0] [101,0] (fun _=>rfl) (fun _=>rfl) fun τ a w F hS=>?_
 try dsimp only [RS.sub,SF.sub,CF.sub,csub,Anc.sub,List.map,Zf,xL,xM,Nat.reduceAdd,xD,xE,xT,xU,xC,xN,zCF,rInt] at hS
 generalize τ 26=v26 at hS
 refine Za (wp_seq ?_)
 refine Zc hS (qM rfl rfl (qM rfl rfl (qM rfl rfl (qf (ZcI (sz:=1) (.mk Tryz.underlying41 (by kernel_rfl)) (by intro x;rfl) .t .t (by omega) (by omega)) r2 qz (qf (o_append (sz:=1) (bs:=8) 101 (.mk' Tryz.underlying41 (by kernel_rfl) (by kernel_rfl)) (by intro x;rfl) .is (.sl .t) (by simp only [List.length_append,List.length_cons,List.length_nil,List.length_take,List.length_drop];omega) (by decide)) ⟨rfl,rfl,trivial⟩ ⟨rfl,trivial⟩ (qN rfl rfl qZ)))))) hB [8,7,6] [101,0] (fun _=>rfl) (fun _=>rfl) fun τ a w F hS=>?_
 try dsimp only [RS.sub,SF.sub,CF.sub,csub,Anc.sub,List.map,xC,xN,rInt] at hS
 generalize τ 31=v31 at hS
 refine Za (wp_seq ?_)
 refine Zb hS (qM rfl rfl (qN rfl rfl qB)) hB [7,6] [101,0] rfl rfl fun a w F hS=>Za (wp_ret ?_)
 obtain ⟨F,hS⟩:=hS.give 101 6 rfl rfl
 refine ZA hfr hS rfl (.tmp rfl (.tmp rfl .nil)) (.two (.sl hfin) (.bool hfin2))
theorem Znr (l:List Int) (j:Int) (hl:l.length≤1000000) (hj:0≤j∧j<l.length):FnP Tryz.prog 157 [.sl rInt l,.int .i64 j] (.sl rInt (l.eraseIdx j.toNat)):=by
 refine FnP.mk Tryz.func157 rfl Tryz.ntmps157 rfl ?_
 intro B a w F hB hfr hS
 have hw:IntKind.wrap .i64 (j+1)=j+1:=ZP (by omega)
 have hfin:[] ++ l.take j.toNat++l.drop (IntKind.wrap .i64 (j+1)).toNat=l.eraseIdx j.toNat:=by rw [hw,List.eraseIdx_eq_take_drop_succ,List.nil_append,show (j+1).toNat=j.toNat+1 by omega]
 refine wp_seq ?_
 refine Zb hS (qC qZ) hB [4,1,0] [0] rfl rfl fun a w F hS=>Za (wp_seq ?_)
 refine Zc hS (qf (ZaB (R:=rInt) (sz:=1) 101 Tryz.underlying41 (by kernel_rfl)) trivial qz (qM rfl rfl (qM rfl rfl (qf (ZcL (sz:=1) (.mk Tryz.underlying41 (by kernel_rfl)) (by intro x;rfl) .t .t (by omega) (by omega)) r2 qz (qf (o_append (sz:=1) (bs:=8) 101 (.mk' Tryz.underlying41 (by kernel_rfl) (by kernel_rfl)) (by intro x;rfl) .same (.sl .t) (by simp only [List.length_append,List.length_cons,List.length_nil,List.length_take,List.length_drop];omega) (by decide)) ⟨rfl,rfl,trivial⟩ ⟨rfl,trivial⟩ (qN rfl rfl qZ)))))) hB [5,4,1,0] [101,0] (fun _=>rfl) (fun _=>rfl) fun τ a w F hS=>?_
 try dsimp only [RS.sub,SF.sub,CF.sub,csub,Anc.sub,List.map,Zf,xL,xM,Nat.reduceAdd,xD,xE,xT,xU,xC,xN,zCF,rInt] at hS
 generalize τ 10=v10 at hS
 refine Za (wp_seq ?_)
 refine Zc hS (qM rfl rfl (qM rfl rfl (qM rfl rfl (qp r1 (qf (ZcI (sz:=1) (.mk Tryz.underlying41 (by kernel_rfl)) (by intro x;rfl) .t .t (by rw [hw];omega) (by rw [hw];omega)) r2 qz (qf (o_append (sz:=1) (bs:=8) 101 (.mk' Tryz.underlying41 (by kernel_rfl) (by kernel_rfl)) (by intro x;rfl) .is (.sl .t) (by simp only [List.length_append,List.length_cons,List.length_nil,List.length_take,List.length_drop];omega) (by decide)) ⟨rfl,rfl,trivial⟩ ⟨rfl,trivial⟩ (qN rfl rfl qZ))))))) hB [4] [101,0] (fun _=>rfl) (fun _=>rfl) fun τ a w F hS=>?_
 try dsimp only [RS.sub,SF.sub,CF.sub,csub,Anc.sub,List.map,xC,xN,rInt] at hS
 generalize τ 16=v16 at hS
 refine Za (wp_ret ?_)
 obtain ⟨F,hS⟩:=hS.give 101 4 rfl rfl
 refine Zr hfr hS rfl rfl rfl (.sl hfin)
theorem ZiW (l:List Int):FnP Tryz.prog 81 [.sl rInt l] (.bool (decide (Zal l))):=by
 refine FnP.mk Tryz.func81 rfl Tryz.ntmps81 rfl ?_
 intro B a w F hB hfr hS
 have hll:=Sat.lenSl hS (i:=0) rfl
 refine wp_seq ?_
 refine Zb hS qB hB [2,0] [0] rfl rfl fun a w F hS=>Za (wp_seq ?_)
 refine Zc hS (qf (Zln (vk:=.i64) (ok:=(fun _=>True)) (kv:=(fun n:Int=>Value.int .i64 n)) 101) trivial qz (qN rfl rfl qZ)) hB [3,2,0] [101,0] (fun _=>rfl) (fun _=>rfl) fun τ a w F hS=>?_
 try dsimp only [RS.sub,SF.sub,CF.sub,csub,Anc.sub,List.map,Zf,xL,xM,Nat.reduceAdd,xD,xE,xT,xU,xC,xN,zCF,rInt] at hS
 generalize τ 6=v6 at hS
 refine Za (wp_seq (wp_seq ?_))
 refine Zb hS (qM rfl rfl (qu Tryz.underlying41 r1 (qJ qZ))) hB [9,8,7,3,2] [101,0] rfl rfl fun a w F hS=>Za (wp_block ?_)
 refine Zl (σ:=(Nat)×(List (ZbW Int))×(Nat)) [2,3,7,8] [0] (fun s=>[(9,.pv (.int .i64 (s.1:Int)))]) (fun s=>[(101,.ob (.val v6) (Znk .i64 (fun _=>True) (fun n:Int=>Value.int .i64 n) s.2.1 s.2.2))]) (fun s=>s.1≤l.length∧(Zal (l.take s.1) ∧ ∀ x,mVal x s.2.1=if x ∈ l.take s.1 then 1 else 0)) (fun s=>l.length - s.1) ((0),([]),(0)) hS ⟨rfl,rfl,rfl,rfl,rfl,trivial⟩ ⟨rfl,rfl,trivial⟩ ⟨Nat.zero_le _,⟨⟨by simp,by simp⟩,fun x=>by simp [mVal]⟩⟩ ?_
 clear hS;intro s a w F hC hS
 obtain ⟨i,es,ck⟩:=s
 try dsimp only at hC
 obtain ⟨F,hS⟩:=hS.nm [9,8,7,3,2] [101,0] rfl rfl
 try dsimp only at hS
 obtain ⟨hi,hq⟩:=hC
 obtain ⟨hro,hmv⟩:=hq
 have htk:∀ hil:i<l.length,l.take (i+1)=l.take i ++ [Go.Gm.nth l i]:=fun hil=>Zt hil
 have hv1:∀ x,0≤mVal x es∧mVal x es≤1:=fun x=>by rw [hmv];split <;> omega
 have hv2:mVal (Go.Gm.nth l i) es=if Go.Gm.nth l i ∈ l.take i then 1 else 0:=hmv _
 refine wp_seq ?_
 refine Zb hS (qL r2) hB [10,9,8,7,3,2] [101,0] rfl rfl fun a w F hS=>Za (wp_seq ?_)
 refine Zd hS rfl (fun hc0=>?_) (fun hc0=>?_)
 ·skip
  have hil:i<l.length:=by simp at hc0;omega
  refine wp_skip (Za (wp_seq (wp_block (wp_seq ?_))))
  refine Zb hS (qy 1 Tryz.underlying41 r2 (qf (oR false 1 .t) r1 qz (qN rfl rfl qZ))) hB [9,8,7,5,3,2] [101,0] rfl rfl fun a w F hS=>?_
  try simp only [Int.toNat_natCast] at hS
  refine Za (wp_seq ?_)
  refine Zb hS (qM rfl rfl (qM rfl rfl (qf (ZiQ 101 Tryz.underlying173 (Zh0 Tryz.underlying3) (by kernel_rfl) .is (Z7.int .t rfl)) r2 r1 (qp r1 (qf (ZhW 101 Tryz.underlying173 (Zh0 Tryz.underlying3) .is (Z7.int .t rfl) .t) r3 r1 qZ))))) hB [9,8,7,5,3,2] [101,0] rfl rfl fun a w F hS=>Za (wp_seq ?_)
  refine Zb hS (qM rfl rfl (qf (Zb3 .t qi) r1 qz (qM rfl rfl (qm rfl rfl rfl rfl (qk rfl (fun h=>ZaR (.w h) qi) r2 qz (qf (ZaI .t .t) r2 qz (qM rfl rfl (qm rfl rfl rfl rfl (qm rfl rfl rfl rfl (qk rfl (fun h=>ZiQ 101 Tryz.underlying173 (Zh0 Tryz.underlying3) (by kernel_rfl) (.w h .is) (Z7.int (.w h) rfl)) r3 r1 (qk rfl (fun h=>ZaR (.w h) qi) r2 qz (qf (ZaI .t .t) r2 qz qZ)))))))))))) hB [28,9,8,7,3,2] [101,0] rfl rfl fun a w F hS=>Za ?_
  refine Zd hS rfl (fun hc1=>?_) (fun hc1=>?_)
  ·skip
   have hg:false=decide (Zal l):=(decide_eq_false fun hr=>by have h2:=hr.take (i+1);rw [htk hil] at h2;have h3:=Zal.snoc.1 h2;have h4:=h3.2.1;have h5:=h3.2.2;rw [if_neg h5] at hv2;simp [Zgf,hv2] at hc1;first | omega | (rw [show IntKind.wrap .i64 1=1 by decide] at hc1;omega)).symm
   refine wp_seq ?_
   refine Zb hS qB hB [9,8,7,3,2] [101,0] rfl rfl fun a w F hS=>Za (wp_ret (Zm (Zg (Zg (Zm (Zg ?_))))))
   refine Zr hfr hS rfl rfl rfl (.bool hg)
  have hw1:IntKind.wrap .i64 (mVal (Go.Gm.nth l i) es+1)=mVal (Go.Gm.nth l i) es+1:=ZP (by have:=hv1 (Go.Gm.nth l i);omega)
  have hR2:Zal (l.take (i+1)) ∧ ∀ x,mVal x (mPut (Go.Gm.nth l i) (IntKind.wrap .i64 (mVal (Go.Gm.nth l i) es+1)) (es,ck)).1=if x ∈ l.take (i+1) then 1 else 0:=by
    have hh:=hc1
    simp [Zgf,hw1] at hh
    have hni:Go.Gm.nth l i ∉ l.take i:=fun hm=>by rw [if_pos hm] at hv2;omega
    rw [if_neg hni] at hv2
    refine ⟨by rw [htk hil];exact Zal.snoc.2 ⟨hro,by omega,hni⟩,fun x=>?_⟩
    rw [Zgf,hw1,hv2,hmv,htk hil]
    by_cases hx:x=Go.Gm.nth l i
    · subst hx;simp
    · simp [hx]
  generalize (mPut (Go.Gm.nth l i) (IntKind.wrap .i64 (mVal (Go.Gm.nth l i) es+1)) (es,ck))=ms at hS hR2
  obtain ⟨es2,ck2⟩:=ms
  dsimp only at hS hR2
  refine wp_skip (Zi (Za ?_))
  refine Zb hS (qp r1 (qM rfl rfl qZ)) hB [9,8,7,3,2] [101,0] rfl rfl fun a w F hS=>Za ?_
  replace hS:=hS.ent (i:=9) (s':=.pv (.int .i64 ((i+1:Nat):Int))) rfl (.int (Ze (by omega)))
  obtain ⟨F,hS⟩:=hS.nm [8,7,3,2,9] [0,101] rfl rfl
  exact ⟨((i+1),(es2),(ck2)),F,⟨by omega,hR2⟩,hS,by omega⟩
 have hil:i=l.length:=by simp at hc0;omega
 have hg:true=decide (Zal l):=(decide_eq_true (by rw [hil,List.take_length] at hro;exact hro)).symm
 refine wp_exit (Zk (Zk (Zq (Za (wp_seq ?_)))))
 refine Zb hS qB hB [2] [101,0] rfl rfl fun a w F hS=>Za (wp_ret ?_)
 refine Zr hfr hS rfl rfl rfl (.bool hg)
theorem ZlG {l:List Int} {tx place:Int} (h0:0≤ZaT tx l) (h1:ZaT tx l<place) (h2:place<l.length):(l.take (ZaT tx l).toNat++(l.take (place+1).toNat).drop (ZaT tx l+1).toNat++l.drop place.toNat).set place.toNat tx=(Z9 l tx place).1:=by
 unfold Z9
 rw [if_neg (by omega),if_neg (by simp;omega)]
 have:=Zmp (l:=l) (i:=(ZaT tx l).toNat) (p:=place.toNat) (x:=tx) (by omega) (by omega)
 rw [Int.toNat_of_nonneg (by omega)] at this
 rw [show (place+1).toNat=place.toNat+1 by omega,show (ZaT tx l+1).toNat=(ZaT tx l).toNat+1 by omega,List.drop_take,show place.toNat+1 - ((ZaT tx l).toNat+1)=place.toNat - (ZaT tx l).toNat by omega,this]
theorem ZkS {l:List Int} {tx place:Int} (h0:0≤place) (h1:place≤ZaT tx l) (h2:ZaT tx l<l.length):(l.take (place+1).toNat++(l.take (ZaT tx l).toNat).drop place.toNat++l.drop (ZaT tx l+1).toNat).set place.toNat tx=(Z9 l tx place).1:=by
 unfold Z9
 rw [if_neg (by omega),if_neg (by simp;omega)]
 have:=Zmj (l:=l) (i:=(ZaT tx l).toNat) (p:=place.toNat) (x:=tx) (by omega) (by omega)
 rw [Int.toNat_of_nonneg (by omega)] at this
 rw [show (place+1).toNat=place.toNat+1 by omega,show (ZaT tx l+1).toNat=(ZaT tx l).toNat+1 by omega,List.drop_take,this]
theorem ZkX (l:List Int) (tx place:Int):(Z9 l tx place).1.length≤l.length:=by
 unfold Z9
 split
 · simp
 · split
   · simp
   · rename_i h1 h2
     have hr:=ZdZ tx l
     have h3:(l.eraseIdx (ZaT tx l).toNat).length=l.length - 1:=by rw [List.length_eraseIdx,if_pos (by omega)]
     show (Zhs _ _ _).length≤_
     unfold Zhs
     split
     · rw [List.length_append,List.length_cons,List.length_take,List.length_drop];omega
     · omega
theorem ZdO {now to:List Int} {x:Int} {i:Nat} (h:Go.Gm.nth now i=x):Zan now i (x :: to)=Zan now ((i+1:Nat):Int) to:=by
 rw [Zan,Int.toNat_natCast,if_pos h,Int.natCast_add];rfl
theorem ZeA {now to:List Int} {x:Int} {i:Nat} (h:¬ Go.Gm.nth now i=x):Zan now i (x :: to) = ⟨x,i⟩ :: Zan (Z9 now x i).1 ((i+1:Nat):Int) to:=by
 rw [Zan,Int.toNat_natCast,if_neg h,Int.natCast_add];rfl
theorem Zlf (l:List Int) (tx place:Int) (hl:l.length≤1000000):FnP Tryz.prog 83 [.sl rInt l,.int .i64 tx,.int .i64 place] (.tup [.sl rInt (Z9 l tx place).1,.int .i64 (Z9 l tx place).2]):=by
 refine FnP.mk Tryz.func83 rfl Tryz.ntmps83 rfl ?_
 intro B a w F hB hfr hS
 have hll:=Sat.lenSl hS (i:=0) rfl
 have hxr:=ZdZ tx l
 have hxw:IntKind.wrap .i64 (ZaT tx l+1)=ZaT tx l+1:=ZP (by omega)
 refine wp_seq ?_
 refine Zb hS (qC (qI qZ)) hB [7,6,2,1,0] [0] rfl rfl fun a w F hS=>Za (wp_seq ?_)
 refine Zb hS (qM rfl rfl (qM rfl rfl (qf (oP (Zk5 l tx) Tryz.func145 (Args.two .t .t)) r2 qz (qN rfl rfl qZ)))) hB [8,7,6,2,1,0] [0] rfl rfl fun a w F hS=>Za (wp_seq (wp_block (wp_seq ?_)))
 refine Zb hS (qM rfl rfl (qf (Zb3 .t qi) r1 qz (qN rfl rfl qZ))) hB [13,8,7,6,2,1,0] [0] rfl rfl fun a w F hS=>Za ?_
 refine Zd hS rfl (fun hc0=>?_) (fun hc0=>?_)
 ·skip
  have hix:ZaT tx l<0:=by simpa using hc0
  have hm:Z9 l tx place=([],3):=if_pos hix
  refine wp_seq ?_
  refine Zb hS (qC (qI qZ)) hB [8,7,6,2,1,0] [0] rfl rfl fun a w F hS=>Za (wp_ret (Zm (Zg ?_)))
  refine ZA hfr hS rfl (.tmp rfl (.tmp rfl .nil)) (.two (.trans .nilSl (.sl (by first | (rw [hm];done) | exact hm1))) (.int (by first | (rw [hm];done) | exact hm2)))
 have hix:0≤ZaT tx l:=by simp at hc0;omega
 refine wp_seq ?_
 refine Zb hS (qM rfl rfl (qf (Zb3 .t qi) r1 qz (qM rfl rfl (qm rfl rfl rfl rfl (qm rfl rfl rfl rfl (qk rfl (fun h=>ZaS Tryz.underlying41 (.w h)) r2 qz (qk rfl (fun h=>ZbF (.w h) (.w h)) r3 qz (qf (ZaI .t .t) r2 qz (qN rfl rfl qZ))))))))) hB [16,8,7,6,2,1,0] [0] rfl rfl fun a w F hS=>Za ?_
 refine Zd hS rfl (fun hc1=>?_) (fun hc1=>?_)
 ·skip
  have hpl:¬ (0≤place∧place<l.length):=by simp at hc1;omega
  have hm:Z9 l tx place=([],1):=(if_neg (by omega)).trans (if_pos hpl)
  refine wp_seq ?_
  refine Zb hS (qC (qI qZ)) hB [8,7,6,2,1,0] [0] rfl rfl fun a w F hS=>Za (wp_ret (Zm (Zg ?_)))
  refine ZA hfr hS rfl (.tmp rfl (.tmp rfl .nil)) (.two (.trans .nilSl (.sl (by first | (rw [hm];done) | exact hm1))) (.int (by first | (rw [hm];done) | exact hm2)))
 have hpl:0≤place∧place<l.length:=by simp at hc1;omega
 have hpw:IntKind.wrap .i64 (place+1)=place+1:=ZP (by omega)
 have hm2:0=(Z9 l tx place).2:=by unfold Z9;rw [if_neg (by omega),if_neg (by simp;omega)]
 refine wp_skip (Zi (Za (wp_seq ?_)))
 replace hS:=hS.fresh 101 rfl
 refine Zc hS (qM rfl rfl (qf (ZaM 101 (ZcC l hl) Tryz.func82 rfl (by kernel_rfl) (Args.one .t) ZaF) r1 r1 (qN rfl rfl qZ))) hB [9,8,7,6,2,1,0] [101,0] (fun _=>rfl) (fun _=>rfl) fun τ a w F hS=>?_
 try dsimp only [RS.sub,SF.sub,CF.sub,csub,Anc.sub,List.map,rInt] at hS
 generalize τ 26=v26 at hS
 refine Za (wp_seq (wp_seq ?_))
 refine Zb hS (qM rfl rfl (qM rfl rfl (qL r2))) hB [29,9,8,7,6,2,1,0] [101,0] rfl rfl fun a w F hS=>Za ?_
 refine Zd hS rfl (fun hc2=>?_) (fun hc2=>?_)
 ·skip
  have hip:ZaT tx l<place:=by simpa using hc2
  refine ZE hS (qM rfl rfl (qM rfl rfl (qM rfl rfl (qf (ZiB 101 (.mk Tryz.underlying41 (by kernel_rfl)) .is .t .t (by first | omega | (rw [hxw,hpw];omega) | (rw [hpw];omega) | (rw [hxw];omega)) (by first | omega | (rw [hxw,hpw];omega) | (rw [hpw];omega) | (rw [hxw];omega)) (by first | omega | (rw [hxw,hpw];omega) | (rw [hpw];omega) | (rw [hxw];omega)) (by first | omega | (rw [hxw,hpw];omega) | (rw [hpw];omega) | (rw [hxw];omega))) r3 r1 (qM rfl rfl (qM rfl rfl (qp r1 (qM rfl rfl (qp r1 (qf (Zf5 (sz:=1) (.mk Tryz.underlying41 (by kernel_rfl)) (by intro x;rfl) .t .t .t (by first | omega | (rw [hxw,hpw];omega) | (rw [hpw];omega) | (rw [hxw];omega)) (by first | omega | (rw [hxw,hpw];omega) | (rw [hpw];omega) | (rw [hxw];omega)) (by first | omega | (rw [hxw,hpw];omega) | (rw [hpw];omega) | (rw [hxw];omega))) r3 qz (qf (o_copy_lh 101 Tryz.underlying41 (by kernel_rfl) (by intro x;rfl) .t .t (by first | omega | (rw [hxw,hpw];omega) | (rw [hpw];omega) | (rw [hxw];omega)) (by first | omega | (rw [hxw,hpw];omega) | (rw [hpw];omega) | (rw [hxw];omega)) (by first | omega | (rw [hxw,hpw];omega) | (rw [hpw];omega) | (rw [hxw];omega)) (by simp only [hxw,hpw,List.length_take,List.length_drop];omega)) r2 r1 qZ))))))))))) hB [9,7,6,2,1] [101,0] rfl rfl fun a w F hS=>?_
  try dsimp only [rInt] at hS
  rw [hxw,hpw] at hS
  obtain ⟨l2,hl2⟩:∃ l2,l2=l.take (ZaT tx l).toNat++(l.take (place+1).toNat).drop (ZaT tx l+1).toNat++l.drop place.toNat:=⟨_,rfl⟩
  rw [← hl2] at hS
  have hll2:l2.length=l.length:=by rw [hl2];simp only [List.length_append,List.length_take,List.length_drop];omega
  have hm1:l2.set place.toNat tx=(Z9 l tx place).1:=by rw [hl2];exact ZlG (by omega) hip (by omega)
  refine Za (wp_seq ?_)
  refine Zb hS (qM rfl rfl (qM rfl rfl (qM rfl rfl (qf (o_indexAddr_row (sz:=1) 101 (.mk Tryz.underlying41 (by kernel_rfl)) .is .t (by omega) (by omega) (by rfl)) r2 r1 (qf (ZbB (R:=rInt) (sz:=1) (v:=tx) 101 .t (by intro x;rfl) (by omega) .t rfl one_int (by kernel_rfl)) r2 r1 qZ))))) hB [9,7,6] [101,0] rfl rfl fun a w F hS=>?_
  try simp only [Int.toNat_natCast] at hS
  refine Za (wp_seq ?_)
  refine Zb hS (qM rfl rfl (qN rfl rfl (qI qZ))) hB [7,6] [101,0] rfl rfl fun a w F hS=>Za (wp_ret ?_)
  obtain ⟨F,hS⟩:=hS.give 101 6 rfl rfl
  refine ZA hfr hS rfl (.tmp rfl (.tmp rfl .nil)) (.two (.sl (by first | (rw [hm];done) | exact hm1)) (.int (by first | (rw [hm];done) | exact hm2)))
 have hip:place≤ZaT tx l:=by simp at hc2;omega
 refine ZE hS (qM rfl rfl (qM rfl rfl (qp r1 (qM rfl rfl (qp r1 (qf (ZiB 101 (.mk Tryz.underlying41 (by kernel_rfl)) .is .t .t (by first | omega | (rw [hxw,hpw];omega) | (rw [hpw];omega) | (rw [hxw];omega)) (by first | omega | (rw [hxw,hpw];omega) | (rw [hpw];omega) | (rw [hxw];omega)) (by first | omega | (rw [hxw,hpw];omega) | (rw [hpw];omega) | (rw [hxw];omega)) (by first | omega | (rw [hxw,hpw];omega) | (rw [hpw];omega) | (rw [hxw];omega))) r3 r1 (qM rfl rfl (qM rfl rfl (qM rfl rfl (qf (Zf5 (sz:=1) (.mk Tryz.underlying41 (by kernel_rfl)) (by intro x;rfl) .t .t .t (by first | omega | (rw [hxw,hpw];omega) | (rw [hpw];omega) | (rw [hxw];omega)) (by first | omega | (rw [hxw,hpw];omega) | (rw [hpw];omega) | (rw [hxw];omega)) (by first | omega | (rw [hxw,hpw];omega) | (rw [hpw];omega) | (rw [hxw];omega))) r3 qz (qf (o_copy_lh 101 Tryz.underlying41 (by kernel_rfl) (by intro x;rfl) .t .t (by first | omega | (rw [hxw,hpw];omega) | (rw [hpw];omega) | (rw [hxw];omega)) (by first | omega | (rw [hxw,hpw];omega) | (rw [hpw];omega) | (rw [hxw];omega)) (by first | omega | (rw [hxw,hpw];omega) | (rw [hpw];omega) | (rw [hxw];omega)) (by simp only [hxw,hpw,List.length_take,List.length_drop];omega)) r2 r1 qZ))))))))))) hB [9,7,6,2,1] [101,0] rfl rfl fun a w F hS=>?_
 try dsimp only [rInt] at hS
 rw [hxw,hpw] at hS
 obtain ⟨l2,hl2⟩:∃ l2,l2=l.take (place+1).toNat++(l.take (ZaT tx l).toNat).drop place.toNat++l.drop (ZaT tx l+1).toNat:=⟨_,rfl⟩
 rw [← hl2] at hS
 have hll2:l2.length=l.length:=by rw [hl2];simp only [List.length_append,List.length_take,List.length_drop];omega
 have hm1:l2.set place.toNat tx=(Z9 l tx place).1:=by rw [hl2];exact ZkS (by omega) hip (by omega)
 refine Za (wp_seq ?_)
 refine Zb hS (qM rfl rfl (qM rfl rfl (qM rfl rfl (qf (o_indexAddr_row (sz:=1) 101 (.mk Tryz.underlying41 (by kernel_rfl)) .is .t (by omega) (by omega) (by rfl)) r2 r1 (qf (ZbB (R:=rInt) (sz:=1) (v:=tx) 101 .t (by intro x;rfl) (by omega) .t rfl one_int (by kernel_rfl)) r2 r1 qZ))))) hB [9,7,6] [101,0] rfl rfl fun a w F hS=>?_
 try simp only [Int.toNat_natCast] at hS
 refine Za (wp_seq ?_)
 refine Zb hS (qM rfl rfl (qN rfl rfl (qI qZ))) hB [7,6] [101,0] rfl rfl fun a w F hS=>Za (wp_ret ?_)
 obtain ⟨F,hS⟩:=hS.give 101 6 rfl rfl
 refine ZA hfr hS rfl (.tmp rfl (.tmp rfl .nil)) (.two (.sl (by first | (rw [hm];done) | exact hm1)) (.int (by first | (rw [hm];done) | exact hm2)))
theorem ZiP (l:List Int) (tx place:Int) (hl:l.length≤1000000):FnP Tryz.prog 95 [.sl rInt l,.int .i64 tx,.int .i64 place] (.tup [.sl rInt (Z9 l tx place).1,.int .i64 (Z9 l tx place).2]):=by
 refine FnP.mk Tryz.func95 rfl Tryz.ntmps95 rfl ?_
 intro B a w F hB hfr hS
 have hll:=Sat.lenSl hS (i:=0) rfl
 have hxr:=ZdZ tx l
 have hxw:IntKind.wrap .i64 (ZaT tx l+1)=ZaT tx l+1:=ZP (by omega)
 refine wp_seq ?_
 refine Zb hS (qC (qI qZ)) hB [7,6,2,1,0] [0] rfl rfl fun a w F hS=>Za (wp_seq ?_)
 refine Zb hS (qM rfl rfl (qM rfl rfl (qf (oP (ZlH l tx) Tryz.func154 (Args.two .t .t)) r2 qz (qN rfl rfl qZ)))) hB [8,7,6,2,1,0] [0] rfl rfl fun a w F hS=>Za (wp_seq (wp_seq ?_))
 refine Zb hS (qM rfl rfl (qf (Zb3 .t qi) r1 qz qZ)) hB [15,8,7,6,2,1,0] [0] rfl rfl fun a w F hS=>Za ?_
 refine Zd hS rfl (fun hc0=>?_) (fun hc0=>?_)
 ·skip
  have hix:ZaT tx l<0:=by simpa using hc0
  have hm:Z9 l tx place=([],3):=if_pos hix
  refine wp_seq ?_
  refine Zb hS (qC (qI qZ)) hB [8,7,6,2,1,0] [0] rfl rfl fun a w F hS=>Za (wp_ret (Zg ?_))
  refine ZA hfr hS rfl (.tmp rfl (.tmp rfl .nil)) (.two (.trans .nilSl (.sl (by first | (rw [hm];done) | exact hm1))) (.int (by first | (rw [hm];done) | exact hm2)))
 have hix:0≤ZaT tx l:=by simp at hc0;omega
 refine wp_skip (Za (wp_seq (wp_seq ?_)))
 refine Zb hS (qM rfl rfl (qM rfl rfl (qf (oP (Zkj l place) Tryz.func155 (Args.two .t .t)) r2 qz (qf (o_not .t) r1 qz qZ)))) hB [19,8,7,6,2,1,0] [0] rfl rfl fun a w F hS=>Za ?_
 refine Zd hS rfl (fun hc1=>?_) (fun hc1=>?_)
 ·skip
  have hpl:¬ (0≤place∧place<l.length):=by simp at hc1;omega
  have hm:Z9 l tx place=([],1):=(if_neg (by omega)).trans (if_pos hpl)
  refine wp_seq ?_
  refine Zb hS (qC (qI qZ)) hB [8,7,6,2,1,0] [0] rfl rfl fun a w F hS=>Za (wp_ret (Zg ?_))
  refine ZA hfr hS rfl (.tmp rfl (.tmp rfl .nil)) (.two (.trans .nilSl (.sl (by first | (rw [hm];done) | exact hm1))) (.int (by first | (rw [hm];done) | exact hm2)))
 have hpl:0≤place∧place<l.length:=by simp at hc1;omega
 have hm:Z9 l tx place=(Zhs (l.eraseIdx (ZaT tx l).toNat) place tx,0):=(if_neg (by omega)).trans (if_neg (by simp;omega))
 refine wp_skip (Za (wp_seq ?_))
 refine Zb hS (qM rfl rfl (qM rfl rfl (qf (oP (Znr l (ZaT tx l) hl (by omega)) Tryz.func157 (Args.two .t .t)) r2 qz (qM rfl rfl (qM rfl rfl (qf (oP (Znt (l.eraseIdx (ZaT tx l).toNat) place tx (by rw [List.length_eraseIdx];split <;> omega)) Tryz.func156 (Args.three .t .t .t)) r3 qz (qM rfl rfl (qf (o_extract .t rfl) r1 qz (qf (o_extract .t rfl) r1 qz (qN rfl rfl (qN rfl rfl qZ))))))))))) hB [9,7,6] [0] rfl rfl fun a w F hS=>Za (wp_seq ?_)
 refine Zb hS (qM rfl rfl (qN rfl rfl (qI qZ))) hB [7,6] [0] rfl rfl fun a w F hS=>Za (wp_ret ?_)
 refine ZA hfr hS rfl (.tmp rfl (.tmp rfl .nil)) (.two (.sl (by first | (rw [hm];done) | exact hm1)) (.int (by first | (rw [hm];done) | exact hm2)))
def Zab (g:Zn) (key:Int) (rule:List Int→List Int×Int):Zn×Int:=if ¬ Zx g then (zeroH,5) else if isK OrdD.key key g.orders=false then (zeroH,3) else if (rule (Go.Gm.nth g.orders (lowK OrdD.key key g.orders)).txs).2≠0 then (zeroH,(rule (Go.Gm.nth g.orders (lowK OrdD.key key g.orders)).txs).2) else (⟨g.txs,g.orders.set (lowK OrdD.key key g.orders) ⟨(Go.Gm.nth g.orders (lowK OrdD.key key g.orders)).key,(rule (Go.Gm.nth g.orders (lowK OrdD.key key g.orders)).txs).1⟩⟩,0)
def ZcO (o:OrdD) (l:List Int):List Int×Int:=if l.Perm o.txs then (o.txs,0) else ([],8)
def ZaD (g:Zn) (o:OrdD):Zn×Int:=Zab g o.key (ZcO o)
def ZdS (g:Zn) (key id place:Int):Zn×Int:=Zab g key fun l=>Z9 l id place
theorem ZiI (g : Zn) (key : Int) (rule : List Int → List Int × Int) (f : FuncId) (fn : Func) (cps : List PV) (hf : Tryz.prog.funcs[f]? = some fn) (hb : fn.body.isSome = true) (hnn : (fn.name == "runtime.NumGoroutine") = false) (hw : ∀ l : List Int, l.length ≤ 1000 → FnP Tryz.prog f (.sl rInt l :: cps) (.tup [.sl rInt (rule l).1, .int .i64 (rule l).2])) (hs : ZaK g) : FnP Tryz.prog 125 [.agg (Zj g), .int .i64 key, .clos f cps] (.tup [.agg (Zj (Zab g key rule).1), .int .i64 (Zab g key rule).2]) := by
 refine FnP.mk Tryz.func125 rfl Tryz.ntmps125 rfl ?_
 intro B a w F hB hfr hS
 have hso:=hs.2.1
 refine wp_seq ?_
 refine Zc hS (qx 101 r1 (qf (oH [.slice none 0 0,.slice none 0 0] 102) trivial qz (qI qZ))) hB [7,6,3,2,1] [102,101,0] (fun _=>rfl) (fun _=>rfl) fun τ a w F hS=>?_
 try dsimp only [RS.sub,SF.sub,CF.sub,csub,Anc.sub,List.map,zCF,Zj,rTx,Zs,Zv,rInt,rOp] at hS
 generalize τ 3=v3 at hS
 generalize τ 6=v6 at hS
 refine Za (wp_seq (wp_seq ?_))
 refine Zb hS (qe 2 101 r1 r1 (qf (oP (Zdz g hs) Tryz.func16 (Args.one (.pagg .t))) r1 qz (qf (o_not .t) r1 qz qZ))) hB [15,7,6,3,2,1] [102,101,0] rfl rfl fun a w F hS=>Za ?_
 refine Zd hS rfl (fun hc0=>?_) (fun hc0=>?_)
 ·skip
  have hr:¬ Zx g:=by simpa using hc0
  have hg:Zab g key rule=(zeroH,5):=by unfold Zab;rw [if_pos hr]
  refine wp_seq ?_
  refine Zb hS (qf (oB [] [.slice none 0 0,.slice none 0 0] [(0,1),(1,1)] .nil) trivial qz (qs 2 102 r2 r1 (qI qZ))) hB [7,6,3,2,1] [102,101,0] rfl rfl fun a w F hS=>Za (wp_ret (Zg ?_))
  refine ZA hfr hS rfl (.cl 102 true 2 rfl rfl (.tmp rfl .nil)) (.two (by rw [hg];first | exact .aggU rfl rfl | exact .aggLe rfl ⟨PVLe.nilSl,PVLe.nilSl,trivial⟩) (.int (by rw [hg])))
 have hr:Zx g:=by simpa using hc0
 have hrr:=ZT hr
 refine wp_skip (Za (wp_seq ?_))
 refine Zb hS (qg 1 101 r1 r1 (qa 101 r1 r1 (qM rfl rfl (qf (oP (Zn2 g.orders key (by omega) hrr.2 175 Tryz.f175 [] Tryz.func175 rfl (by kernel_rfl) (fun x=>Zkq x key)) Tryz.func174 (Args.three .t .t (.conv .f (Ent.fnClos)))) r2 qz (qM rfl rfl (qf (o_extract .t rfl) r1 qz (qf (o_extract .t rfl) r1 qz (qN rfl rfl (qN rfl rfl qZ))))))))) hB [9,8,7,6,3,2] [102,101,0] rfl rfl fun a w F hS=>Za (wp_seq (wp_seq ?_))
 refine Zb hS (qM rfl rfl (qf (o_not .t) r1 qz qZ)) hB [25,8,7,6,3,2] [102,101,0] rfl rfl fun a w F hS=>Za ?_
 refine Zd hS rfl (fun hc1=>?_) (fun hc1=>?_)
 ·skip
  have hik:isK OrdD.key key g.orders=false:=by simpa using hc1
  have hg:Zab g key rule=(zeroH,3):=by unfold Zab;rw [if_neg (Decidable.not_not.2 hr),if_pos hik]
  refine wp_seq ?_
  refine Zb hS (qf (oB [] [.slice none 0 0,.slice none 0 0] [(0,1),(1,1)] .nil) trivial qz (qs 2 102 r2 r1 (qI qZ))) hB [8,7,6,3,2] [102,101,0] rfl rfl fun a w F hS=>Za (wp_ret (Zg ?_))
  refine ZA hfr hS rfl (.cl 102 true 2 rfl rfl (.tmp rfl .nil)) (.two (by rw [hg];first | exact .aggU rfl rfl | exact .aggLe rfl ⟨PVLe.nilSl,PVLe.nilSl,trivial⟩) (.int (by rw [hg])))
 have hik:isK OrdD.key key g.orders=true:=by simpa using hc1
 have hlk:=(Zc3 hrr.2 hik).1
 have hnl:(Go.Gm.nth g.orders (lowK OrdD.key key g.orders)).txs.length≤1000:=hs.2.at hlk
 refine wp_skip (Za (wp_seq ?_))
 refine Zb hS (qM rfl rfl (qg 1 101 r1 r1 (qa 101 r1 r1 (qM rfl rfl (qy 2 Tryz.underlying23 r2 (qf (oG 1 .t) r1 qz (qf (oR false 1 .t) r1 qz (qf (Z2 (avs:=[.sl rInt (Go.Gm.nth g.orders (lowK OrdD.key key g.orders)).txs]) .t (hw (Go.Gm.nth g.orders (lowK OrdD.key key g.orders)).txs hnl) hf hb hnn (Args.one .t)) r2 qz (qM rfl rfl (qf (o_extract .t rfl) r1 qz (qf (o_extract .t rfl) r1 qz (qN rfl rfl (qN rfl rfl qZ))))))))))))) hB [11,10,8,7,6,3] [102,101,0] rfl rfl fun a w F hS=>?_
 try simp only [Int.toNat_natCast] at hS
 refine Za (wp_seq (wp_seq ?_))
 refine Zb hS (qM rfl rfl (qf (o_neq .t qi) r1 qz qZ)) hB [39,11,10,8,7,6,3] [102,101,0] rfl rfl fun a w F hS=>Za ?_
 refine Zd hS rfl (fun hc2=>?_) (fun hc2=>?_)
 ·skip
  have hrl:(rule (Go.Gm.nth g.orders (lowK OrdD.key key g.orders)).txs).2≠0:=by simpa using hc2
  have hg:Zab g key rule=(zeroH,(rule (Go.Gm.nth g.orders (lowK OrdD.key key g.orders)).txs).2):=by unfold Zab;rw [if_neg (Decidable.not_not.2 hr),if_neg (by rw [hik];simp),if_pos hrl]
  refine wp_seq ?_
  refine Zb hS (qf (oB [] [.slice none 0 0,.slice none 0 0] [(0,1),(1,1)] .nil) trivial qz (qM rfl rfl (qs 2 102 r2 r1 (qN rfl rfl qZ)))) hB [10,8,7,6,3] [102,101,0] rfl rfl fun a w F hS=>Za (wp_ret (Zg ?_))
  refine ZA hfr hS rfl (.cl 102 true 2 rfl rfl (.tmp rfl .nil)) (.two (by rw [hg];first | exact .aggU rfl rfl | exact .aggLe rfl ⟨PVLe.nilSl,PVLe.nilSl,trivial⟩) (.int (by rw [hg])))
 have hg:Zab g key rule=(⟨g.txs,g.orders.set (lowK OrdD.key key g.orders) (⟨(Go.Gm.nth g.orders (lowK OrdD.key key g.orders)).key,(rule (Go.Gm.nth g.orders (lowK OrdD.key key g.orders)).txs).1⟩:OrdD)⟩,0):=by unfold Zab;rw [if_neg (Decidable.not_not.2 hr),if_neg (by rw [hik];simp),if_neg (by simpa using hc2)]
 refine wp_skip (Za (wp_seq ?_))
 replace hS:=hS.fresh 103 rfl
 refine Zc hS (qe 2 101 r1 r1 (qf (Zev 103 (ZgJ g hs) Tryz.func119 rfl (by kernel_rfl) (Args.one (.pagg .t))) r1 r1 (qf (oH [.slice none 0 0,.slice none 0 0] 104) trivial qz (qf (oA 2 104 .same (.conv .t (Ent.fnAgg (.fn (.fn .nil))))) r2 r1 qZ)))) hB [12,10,8,7,6] [104,103,102,101,0] (fun _=>rfl) (fun _=>rfl) fun τ a w F hS=>?_
 try dsimp only [RS.sub,SF.sub,CF.sub,csub,Anc.sub,List.map,Zf,xL,xM,Nat.reduceAdd,xD,xE,xT,xU,xC,xN,zCF,ldSF,Zj,rTx,Zs,Zv,rInt,rOp] at hS
 generalize τ 12=v12 at hS
 generalize τ 43=v43 at hS
 replace hS:=hS.turn 103 rfl (r':=RS.hp (HP.star [.ob (.val (cellN 0 v43)) (Zw 40 3 rTx g.txs),.ob (.val (cellN 1 v43)) (Zw 43 2 Zs g.orders)])) (fun _ _ _ _ h=>h)
 obtain ⟨F,hS⟩:=hS.peel 103 70 rfl rfl
 obtain ⟨F,hS⟩:=hS.peel 103 71 rfl rfl
 obtain ⟨F,hS⟩:=hS.nm [12,10,8,7,6] [104,102,101,71,70,0] rfl rfl
 generalize cellN 0 v43=va at hS
 generalize cellN 1 v43=vb at hS
 refine Za (wp_seq ?_)
 refine Zb hS (qg 1 104 r1 r1 (qa 104 r1 r1 (qM rfl rfl (qM rfl rfl (qf (o_indexAddr_row (sz:=2) 71 (.mk Tryz.underlying23 (by kernel_rfl)) .is .t (by omega) (by omega) (by rfl)) r2 r1 (qf (Zak (off:=1) (sz:=2) 71 .t (by omega) (by kernel_rfl) (by rfl)) r1 r1 (qf (Zce (R:=Zs) (sz:=2) (off:=1) (v':=(⟨(Go.Gm.nth g.orders (lowK OrdD.key key g.orders)).key,(rule (Go.Gm.nth g.orders (lowK OrdD.key key g.orders)).txs).1⟩:OrdD)) 71 .t (by intro x;rfl) (by omega) (by decide) .t one_sl rfl (by kernel_rfl)) r2 r1 qZ))))))) hB [12,7,6] [104,102,101,71,70,0] rfl rfl fun a w F hS=>?_
 try simp only [Int.toNat_natCast] at hS
 refine Za (wp_seq ?_)
 obtain ⟨F,hS⟩:=hS.giveCell 70 104 0 rfl rfl rfl rfl rfl
 try dsimp only [List.set] at hS
 obtain ⟨F,hS⟩:=hS.nm [12,7,6] [104,102,101,71,0] rfl rfl
 obtain ⟨F,hS⟩:=hS.giveCell 71 104 1 rfl rfl rfl rfl rfl
 try dsimp only [List.set] at hS
 obtain ⟨F,hS⟩:=hS.nm [12,7,6] [104,102,101,0] rfl rfl
 refine Zb hS (qe 2 104 r1 r1 (qs 2 102 r2 r1 (qI qZ))) hB [7,6] [104,102,101,0] rfl rfl fun a w F hS=>Za (wp_ret ?_)
 refine ZA hfr hS rfl (.cl 102 true 2 rfl rfl (.tmp rfl .nil)) (.two (by rw [hg];first | exact .aggU rfl rfl | exact .aggLe rfl ⟨PVLe.nilSl,PVLe.nilSl,trivial⟩) (.int (by rw [hg])))
theorem ZjZ (l:List Int) (o:OrdD) (hl:l.length≤1000) (ho:o.txs.length≤1000):FnP Tryz.prog 126 [.sl rInt l,.ref (Zs o)] (.tup [.sl rInt (ZcO o l).1,.int .i64 (ZcO o l).2]):=by
 refine FnP.mk Tryz.func126 rfl Tryz.ntmps126 rfl ?_
 intro B a w F hB hfr hS
 refine wp_seq ?_
 refine Zb hS (qC (qI qZ)) hB [4,3,1,0] [0] rfl rfl fun a w F hS=>Za (wp_seq (wp_seq ?_))
 refine Zb hS (qM rfl rfl (qf (oG 1 .t) r1 qz (qf (oR false 1 .t) r1 qz (qf (oP (Zkz l o.txs (by omega) (by omega)) Tryz.func46 (Args.two .t .t)) r2 qz (qf (o_not .t) r1 qz qZ))))) hB [9,4,3,1] [0] rfl rfl fun a w F hS=>Za ?_
 refine Zd hS rfl (fun hc0=>?_) (fun hc0=>?_)
 ·skip
  have hg:ZcO o l=([],8):=by unfold ZcO;rw [if_neg (by simpa using hc0)]
  refine wp_seq ?_
  refine Zb hS (qC (qI qZ)) hB [4,3,1] [0] rfl rfl fun a w F hS=>Za (wp_ret (Zg ?_))
  refine ZA hfr hS rfl (.tmp rfl (.tmp rfl .nil)) (.two (.trans .nilSl (.sl (by rw [hg]))) (.int (by rw [hg])))
 have hg:ZcO o l=(o.txs,0):=by unfold ZcO;rw [if_pos (by simpa using hc0)]
 refine wp_skip (Za (wp_seq ?_))
 refine Zb hS (qf (oG 1 .t) r1 qz (qf (oR false 1 .t) r1 qz (qf (oP (cloneIP_c o.txs (by omega)) Tryz.func82 (Args.one .t)) r1 qz (qN rfl rfl (qI qZ))))) hB [4,3] [0] rfl rfl fun a w F hS=>Za (wp_ret ?_)
 refine ZA hfr hS rfl (.tmp rfl (.tmp rfl .nil)) (.two (.sl (by rw [hg])) (.int (by rw [hg])))
theorem Zne (l:List Int) (id place:Int) (hl:l.length≤1000):FnP Tryz.prog 127 [.sl rInt l,.ref [.int .i64 id],.ref [.int .i64 place]] (.tup [.sl rInt (Z9 l id place).1,.int .i64 (Z9 l id place).2]):=by
 refine FnP.mk Tryz.func127 rfl Tryz.ntmps127 rfl ?_
 intro B a w F hB hfr hS
 refine wp_seq ?_
 refine Zb hS (qC (qI qZ)) hB [5,4,2,1,0] [0] rfl rfl fun a w F hS=>Za (wp_seq ?_)
 refine Zb hS (qM rfl rfl (qf (oR false 1 .t) r1 qz (qf (oR false 1 .t) r1 qz (qf (oP (Zlf l id place (by omega)) Tryz.func83 (Args.three .t .t .t)) r3 qz (qf (o_extract .t rfl) r1 qz (qf (o_extract .t rfl) r1 qz (qN rfl rfl (qN rfl rfl qZ)))))))) hB [5,4] [0] rfl rfl fun a w F hS=>Za (wp_ret ?_)
 refine ZA hfr hS rfl (.tmp rfl (.tmp rfl .nil)) (.two .refl .refl)
theorem ZjP (g:Zn) (o:OrdD) (hs:ZaK g) (ho:o.txs.length≤1000):FnP Tryz.prog 58 [.agg (Zj g),.agg (Zs o)] (.tup [.agg (Zj (ZaD g o).1),.int .i64 (ZaD g o).2]):=by
 refine FnP.mk Tryz.func58 rfl Tryz.ntmps58 rfl ?_
 intro B a w F hB hfr hS
 refine wp_seq ?_
 refine Zc hS (qx 101 r1 (qx 102 r1 (qf (oH [.slice none 0 0,.slice none 0 0] 103) trivial qz (qI qZ)))) hB [5,4,3,2] [103,102,101,0] (fun _=>rfl) (fun _=>rfl) fun τ a w F hS=>?_
 try dsimp only [RS.sub,SF.sub,CF.sub,csub,Anc.sub,List.map,zCF,Zj,rTx,Zs,Zv,rInt,rOp] at hS
 generalize τ 2=v2 at hS
 generalize τ 3=v3 at hS
 generalize τ 4=v4 at hS
 refine Za (wp_seq ?_)
 refine ZbN 3 hS (by kernel_rfl) (cG rfl (oL true 2 101 .is) r1 r1 (cG rfl (oF 0 102 .is) r1 r1 (cG rfl (oL false 1 102 .adr) r1 r1 ZW.nil))) (by kernel_rfl) (by rw [hB];kernel_rfl) fun a w F hS=>?_
 obtain ⟨F,hS⟩:=hS.nm [8,6,5,4,3] [103,102,101,0] rfl rfl
 try dsimp only [List.map,xD,xE,xT,xU,ldSF,Zj,rTx,Zs,Zv,rInt,rOp] at hS
 obtain ⟨F,hS⟩:=hS.giveRef 102 3 rfl rfl rfl
 obtain ⟨F,hS⟩:=hS.nm [8,6,5,4,3] [103,101,0] rfl rfl
 try dsimp only [Go.Gm.unCF] at hS
 refine Zb7 hS (by kernel_rfl) (cG rfl (ZbK (Args.one .t)) r1 trivial (cG rfl (oP (ZiI g o.key (ZcO o) 126 Tryz.f126 [.ref (Zs o)] Tryz.func126 rfl (by kernel_rfl) (fun l hl=>ZjZ l o hl ho) hs) Tryz.func125 (Args.three (.pagg .t) .t .t)) r3 trivial (cG rfl (o_extract .t rfl) r1 trivial (cG rfl (o_extract .t rfl) r1 trivial (cG rfl (oA 2 103 .is (.conv .t .agg)) r2 r1 (cG rfl (oN .t) r1 trivial ZW.nil)))))) (by kernel_rfl) (by rw [hB];kernel_rfl) fun a w F hS=>?_
 obtain ⟨F,hS⟩:=hS.nm [5,4] [103,101,0] rfl rfl
 try dsimp only [List.map,Zf,xL,xM,Nat.reduceAdd,xD,xE,xT,xU,xC,xN,zCF,Zj,rTx,Zs,Zv,rInt,rOp] at hS
 refine Za (wp_ret ?_)
 refine ZA hfr hS rfl (.cl 103 true 2 rfl rfl (.tmp rfl .nil)) (.two (.aggU rfl rfl) .refl)
theorem ZnC (g:Zn) (key id place:Int) (hs:ZaK g):FnP Tryz.prog 59 [.agg (Zj g),.int .i64 key,.int .i64 id,.int .i64 place] (.tup [.agg (Zj (ZdS g key id place).1),.int .i64 (ZdS g key id place).2]):=by
 refine FnP.mk Tryz.func59 rfl Tryz.ntmps59 rfl ?_
 intro B a w F hB hfr hS
 refine wp_seq ?_
 refine Zc hS (qx 101 r1 (qf (ZiT 102 .t one_int) r1 qz (qf (ZiT 103 .t one_int) r1 qz (qf (oH [.slice none 0 0,.slice none 0 0] 104) trivial qz (qI qZ))))) hB [9,8,7,6,4,1] [104,103,102,101,0] (fun _=>rfl) (fun _=>rfl) fun τ a w F hS=>?_
 try dsimp only [RS.sub,SF.sub,CF.sub,csub,Anc.sub,List.map,zCF,Zj,rTx,Zs,Zv,rInt,rOp] at hS
 generalize τ 4=v4 at hS
 generalize τ 6=v6 at hS
 generalize τ 7=v7 at hS
 generalize τ 8=v8 at hS
 refine Za (wp_seq ?_)
 refine ZbN 2 hS (by kernel_rfl) (cG rfl (oL true 2 101 .is) r1 r1 (cG rfl (oM .t) r1 trivial ZW.nil)) (by kernel_rfl) (by rw [hB];kernel_rfl) fun a w F hS=>?_
 obtain ⟨F,hS⟩:=hS.nm [11,10,9,8,7,6] [104,103,102,101,0] rfl rfl
 try dsimp only [List.map,xD,xE,xT,xU,ldSF,Zj,rTx,Zs,Zv,rInt,rOp] at hS
 obtain ⟨F,hS⟩:=hS.giveRef 102 6 rfl rfl rfl
 obtain ⟨F,hS⟩:=hS.nm [11,10,9,8,7,6] [104,103,101,0] rfl rfl
 try dsimp only [Go.Gm.unCF] at hS
 obtain ⟨F,hS⟩:=hS.giveRef 103 7 rfl rfl rfl
 obtain ⟨F,hS⟩:=hS.nm [11,10,9,8,7,6] [104,101,0] rfl rfl
 try dsimp only [Go.Gm.unCF] at hS
 refine Zb7 hS (by kernel_rfl) (cG rfl (ZbK (Args.two .t .t)) r2 trivial (cG rfl (oP (ZiI g key (fun l=>Z9 l id place) 127 Tryz.f127 [.ref [.int .i64 id],.ref [.int .i64 place]] Tryz.func127 rfl (by kernel_rfl) (fun l hl=>Zne l id place hl) hs) Tryz.func125 (Args.three (.pagg .t) .t .t)) r3 trivial (cG rfl (o_extract .t rfl) r1 trivial (cG rfl (o_extract .t rfl) r1 trivial (cG rfl (oA 2 104 .is (.conv .t .agg)) r2 r1 (cG rfl (oN .t) r1 trivial ZW.nil)))))) (by kernel_rfl) (by rw [hB];kernel_rfl) fun a w F hS=>?_
 obtain ⟨F,hS⟩:=hS.nm [9,8] [104,101,0] rfl rfl
 try dsimp only [List.map,Zf,xL,xM,Nat.reduceAdd,xD,xE,xT,xU,xC,xN,zCF,Zj,rTx,Zs,Zv,rInt,rOp] at hS
 refine Za (wp_ret ?_)
 refine ZA hfr hS rfl (.cl 104 true 2 rfl rfl (.tmp rfl .nil)) (.two (.aggU rfl rfl) .refl)
theorem Zn4 (u v:TxD):((decide (u.id=v.id) && (u.done == v.done)) && decide (u.ops=v.ops))=decide (u=v):=by
 cases u;cases v
 rw [Bool.eq_iff_iff]
 simp [and_assoc]
theorem Znq (u v:OrdD):(decide (u.key=v.key) && decide (u.txs=v.txs))=decide (u=v):=by
 cases u;cases v
 rw [Bool.eq_iff_iff]
 simp
theorem Zmr (u v:Zn):(decide (u.txs=v.txs) && decide (u.orders=v.orders))=decide (u=v):=by
 cases u;cases v
 rw [Bool.eq_iff_iff]
 simp
theorem ZiC (u v:TxD):FnP Tryz.prog 41 [.agg (rTx u),.agg (rTx v)] (.bool (decide (u=v))):=by
 refine FnP.mk Tryz.func41 rfl Tryz.ntmps41 rfl ?_
 intro B a w F hB hfr hS
 refine wp_seq ?_
 refine Zc hS (qx 101 r1 (qx 102 r1 qB)) hB [4,3,2] [102,101,0] (fun _=>rfl) (fun _=>rfl) fun τ a w F hS=>?_
 try dsimp only [RS.sub,SF.sub,CF.sub,csub,Anc.sub,List.map,zCF] at hS
 generalize τ 2=v2 at hS
 generalize τ 3=v3 at hS
 refine Za (wp_seq ?_)
 refine Zb hS (qg 0 101 r1 r1 (qa 101 r1 r1 (qg 0 102 r1 r1 (qa 102 r1 r1 (qf (o_eql .t .t) r2 qz (qM rfl rfl (qv 1 101 rfl r2 r1 (qw 101 rfl r2 r1 (qv 1 102 rfl r2 r1 (qw 102 rfl r2 r1 (qk rfl (fun h=>ZkJ Tryz.underlying4 (.w h) (.w h)) r3 qz (qf (Zy .t .t) r2 qz (qM rfl rfl (qv 2 101 rfl r2 r1 (qw 101 rfl r2 r1 (qv 2 102 rfl r2 r1 (qw 102 rfl r2 r1 (qk rfl (fun h=>oP (ZhI u.ops v.ops) Tryz.func96 (Args.two (.w h) (.w h))) r3 qz (qf (Zy .t .t) r2 qz (qN rfl rfl qZ)))))))))))))))))))) hB [4] [0] rfl rfl fun a w F hS=>Za (wp_ret ?_)
 refine Zr hfr hS rfl rfl rfl (.bool (Zn4 u v))
theorem ZeE (u v:OrdD):FnP Tryz.prog 42 [.agg (Zs u),.agg (Zs v)] (.bool (decide (u=v))):=by
 refine FnP.mk Tryz.func42 rfl Tryz.ntmps42 rfl ?_
 intro B a w F hB hfr hS
 refine wp_seq ?_
 refine Zc hS (qx 101 r1 (qx 102 r1 qB)) hB [4,3,2] [102,101,0] (fun _=>rfl) (fun _=>rfl) fun τ a w F hS=>?_
 try dsimp only [RS.sub,SF.sub,CF.sub,csub,Anc.sub,List.map,zCF] at hS
 generalize τ 2=v2 at hS
 generalize τ 3=v3 at hS
 refine Za (wp_seq ?_)
 refine Zb hS (qg 0 101 r1 r1 (qa 101 r1 r1 (qg 0 102 r1 r1 (qa 102 r1 r1 (qf (o_eql .t .t) r2 qz (qM rfl rfl (qv 1 101 rfl r2 r1 (qw 101 rfl r2 r1 (qv 1 102 rfl r2 r1 (qw 102 rfl r2 r1 (qk rfl (fun h=>oP (ZjB u.txs v.txs) Tryz.func51 (Args.two (.w h) (.w h))) r3 qz (qf (Zy .t .t) r2 qz (qN rfl rfl qZ))))))))))))) hB [4] [0] rfl rfl fun a w F hS=>Za (wp_ret ?_)
 refine Zr hfr hS rfl rfl rfl (.bool (Znq u v))
theorem PVs.lenAt {α:Type} {R:α→List PV} {l:List α} {v:Value} {w:World} {y:Ys} (h:(PV.sl R l).p v w y):l.length≤9223372036854775807:=by
 obtain ⟨_,cap,_,h1,h2,_⟩:=h
 unfold maxLen at h2
 omega
theorem Sat.lenHist {B:Zbf} {E:En} {a:Act} {w:World} {F:Fp} (h:Sat B E a w F) {i:Nat} {u:Zn} (hl:Go.Gm.look E.s i=some (SF.pv (PV.agg (Zj u)))):u.txs.length≤9223372036854775807∧u.orders.length≤9223372036854775807:=by
 obtain ⟨vs,_,hp⟩:=h.s i _ hl
 match vs,hp with
 | [x,y],hp=>exact ⟨PVs.lenAt hp.1.2,PVs.lenAt hp.2.1.2⟩
theorem Zf2 (u v:Zn):FnP Tryz.prog 15 [.agg (Zj u),.agg (Zj v)] (.bool (decide (u=v))):=by
 refine FnP.mk Tryz.func15 rfl Tryz.ntmps15 rfl ?_
 intro B a w F hB hfr hS
 obtain ⟨hxl,hyl⟩:=Sat.lenHist hS (i:=0) rfl
 refine wp_seq ?_
 refine Zc hS (qx 101 r1 (qx 102 r1 qB)) hB [4,3,2] [102,101,0] (fun _=>rfl) (fun _=>rfl) fun τ a w F hS=>?_
 try dsimp only [RS.sub,SF.sub,CF.sub,csub,Anc.sub,List.map,zCF] at hS
 generalize τ 2=v2 at hS
 generalize τ 3=v3 at hS
 refine Za (wp_seq (wp_seq ?_))
 refine Zb hS (qg 0 101 r1 r1 (qa 101 r1 r1 (qu Tryz.underlying22 r1 (qg 0 102 r1 r1 (qa 102 r1 r1 (qu Tryz.underlying22 r1 (qf (o_neq .t .t) r2 qz (qM rfl rfl (qv 1 101 rfl r2 r1 (qw 101 rfl r2 r1 (qk rfl (fun h=>ZaS Tryz.underlying23 (.w h)) r2 qz (qv 1 102 rfl r2 r1 (qw 102 rfl r2 r1 (qk rfl (fun h=>ZaS Tryz.underlying23 (.w h)) r2 qz (qk rfl (fun h=>o_neq (.w h) (.w h)) r3 qz (qf (ZaI .t .t) r2 qz qZ)))))))))))))))) hB [22,4,3,2] [102,101,0] rfl rfl fun a w F hS=>?_
 skip
 refine Za ?_
 refine Zd hS rfl (fun hc0=>?_) (fun hc0=>?_)
 ·skip
  have hg:false=decide (u=v):=by
    rw [eq_comm,decide_eq_false_iff_not]
    intro h
    subst h
    simp at hc0
  refine wp_seq ?_
  refine Zb hS qB hB [4,3,2] [102,101,0] rfl rfl fun a w F hS=>Za (wp_ret (Zg ?_))
  refine Zr hfr hS rfl rfl rfl (.bool hg)
 have hTl:u.txs.length=v.txs.length:=by simp at hc0;omega
 have hOl:u.orders.length=v.orders.length:=by simp at hc0;omega
 refine wp_skip (Za (wp_seq (wp_seq ?_)))
 refine Zb hS (qg 0 101 r1 r1 (qa 101 r1 r1 (qu Tryz.underlying22 r1 (qJ qZ)))) hB [26,25,4,3,2] [102,101,0] rfl rfl fun a w F hS=>Za (wp_block ?_)
 obtain ⟨F,hS⟩:=hS.nm [26,25,3,2] [102,101,0] rfl rfl
 refine Zbe (σ:=Nat) (fun s=>(⟨[(2,.pv (.is v2)),(3,.pv (.is v3)),(25,.pv (.int .i64 u.txs.length)),(26,.pv (.int .i64 s))],[(0,frame B),(101,.pt (.val v2) 25 [.pv (.sl rTx u.txs),.pv (.sl Zs u.orders)]),(102,.pt (.val v3) 25 [.pv (.sl rTx v.txs),.pv (.sl Zs v.orders)])]⟩:En)) (fun s=>s≤u.txs.length ∧ ∀ j,j<s→Go.Gm.nth u.txs j=Go.Gm.nth v.txs j) (fun s=>u.txs.length - s) 0 hS ⟨Nat.zero_le _,fun j hj=>absurd hj (Nat.not_lt_zero j)⟩ ?_
 clear hS;intro i a w F hC hS
 try dsimp only at hC
 try dsimp only at hS
 obtain ⟨hi,hq⟩:=hC
 refine wp_seq ?_
 refine Zb hS (qL r2) hB [27,26,25,3,2] [102,101,0] rfl rfl fun a w F hS=>Za (wp_seq ?_)
 refine Zd hS rfl (fun hc1=>?_) (fun hc1=>?_)
 ·skip
  have hil:i<u.txs.length:=by simp at hc1;omega
  refine wp_skip (Za (wp_seq (wp_block (wp_seq ?_))))
  refine Zb hS (qM rfl rfl (qN rfl rfl qZ)) hB [26,25,5,3,2] [102,101,0] rfl rfl fun a w F hS=>Za (wp_seq ?_)
  refine ZE hS (qg 0 101 r1 r1 (qa 101 r1 r1 (qM rfl rfl (qy 3 Tryz.underlying22 r2 (qf (oR true 3 .t) r1 qz (qg 0 102 r1 r1 (qa 102 r1 r1 (qM rfl rfl (qy 3 Tryz.underlying22 r2 (qf (oR true 3 .t) r1 qz (qf (oP (ZiC (Go.Gm.nth u.txs (i:Int).toNat) (Go.Gm.nth v.txs (i:Int).toNat)) Tryz.func41 (Args.two (.pagg .t) (.pagg .t))) r2 qz (qf (o_not .t) r1 qz qZ)))))))))))) hB [40,26,25,3,2] [102,101,0] rfl rfl fun a w F hS=>?_
  try dsimp only [List.map,xD,xE,xT,xU,ldSF] at hS
  refine Za ?_
  refine Zd hS rfl (fun hc2=>?_) (fun hc2=>?_)
  ·skip
   have hg:false=decide (u=v):=by
     rw [eq_comm,decide_eq_false_iff_not]
     intro h
     subst h
     simp at hc2
   refine wp_seq ?_
   refine Zb hS qB hB [26,25,4,3,2] [102,101,0] rfl rfl fun a w F hS=>Za (wp_ret (Zm (Zg (Zg (Zm (Zg ?_))))))
   refine Zr hfr hS rfl rfl rfl (.bool hg)
  rw [Int.toNat_natCast] at hc2
  have hqi:Go.Gm.nth u.txs i=Go.Gm.nth v.txs i:=by simpa using hc2
  refine wp_skip (Zi (Za ?_))
  refine Zb hS (qp r1 (qM rfl rfl qZ)) hB [26,25,3,2] [102,101,0] rfl rfl fun a w F hS=>Za ?_
  replace hS:=hS.ent (i:=26) (s':=.pv (.int .i64 ((i+1:Nat):Int))) rfl (.int (Ze (by omega)))
  obtain ⟨F,hS⟩:=hS.nm [26,25,3,2] [102,101,0] rfl rfl
  exact ⟨i+1,F,⟨by omega,fun j hj=>by rcases Nat.lt_or_eq_of_le (Nat.le_of_lt_succ hj) with h | h;exact hq j h;rw [h];exact hqi⟩,hS,by omega⟩
 have hT:u.txs=v.txs:=Zbm hTl fun j hj=>hq j (by simp at hc1;omega)
 clear hq hi
 refine wp_exit (Zk (Zk (Zq (Za (wp_seq (wp_seq ?_))))))
 refine Zb hS (qg 1 101 r1 r1 (qa 101 r1 r1 (qu Tryz.underlying23 r1 (qJ qZ)))) hB [45,44,3,2] [102,101,0] rfl rfl fun a w F hS=>Za (wp_block ?_)
 obtain ⟨F,hS⟩:=hS.nm [45,44,3,2] [102,101,0] rfl rfl
 refine Zbe (σ:=Nat) (fun s=>(⟨[(2,.pv (.is v2)),(3,.pv (.is v3)),(44,.pv (.int .i64 u.orders.length)),(45,.pv (.int .i64 s))],[(0,frame B),(101,.pt (.val v2) 25 [.pv (.sl rTx u.txs),.pv (.sl Zs u.orders)]),(102,.pt (.val v3) 25 [.pv (.sl rTx v.txs),.pv (.sl Zs v.orders)])]⟩:En)) (fun s=>s≤u.orders.length ∧ ∀ j,j<s→Go.Gm.nth u.orders j=Go.Gm.nth v.orders j) (fun s=>u.orders.length - s) 0 hS ⟨Nat.zero_le _,fun j hj=>absurd hj (Nat.not_lt_zero j)⟩ ?_
 clear hS;intro i a w F hC hS
 try dsimp only at hC
 try dsimp only at hS
 obtain ⟨hi,hq⟩:=hC
 refine wp_seq ?_
 refine Zb hS (qL r2) hB [46,45,44,3,2] [102,101,0] rfl rfl fun a w F hS=>Za (wp_seq ?_)
 refine Zd hS rfl (fun hc3=>?_) (fun hc3=>?_)
 ·skip
  have hil:i<u.orders.length:=by simp at hc3;omega
  refine wp_skip (Za (wp_seq (wp_block (wp_seq ?_))))
  refine Zb hS (qM rfl rfl (qN rfl rfl qZ)) hB [45,44,6,3,2] [102,101,0] rfl rfl fun a w F hS=>?_
  skip
  refine Za (wp_seq ?_)
  refine ZE hS (qg 1 101 r1 r1 (qa 101 r1 r1 (qM rfl rfl (qy 2 Tryz.underlying23 r2 (qf (oR true 2 .t) r1 qz (qg 1 102 r1 r1 (qa 102 r1 r1 (qM rfl rfl (qy 2 Tryz.underlying23 r2 (qf (oR true 2 .t) r1 qz (qf (oP (ZeE (Go.Gm.nth u.orders (i:Int).toNat) (Go.Gm.nth v.orders (i:Int).toNat)) Tryz.func42 (Args.two (.pagg .t) (.pagg .t))) r2 qz (qf (o_not .t) r1 qz qZ)))))))))))) hB [59,45,44,3,2] [102,101,0] rfl rfl fun a w F hS=>?_
  try dsimp only [List.map,xD,xE,xT,xU,ldSF] at hS
  refine Za ?_
  refine Zd hS rfl (fun hc4=>?_) (fun hc4=>?_)
  ·skip
   have hg:false=decide (u=v):=by
     rw [eq_comm,decide_eq_false_iff_not]
     intro h
     subst h
     simp at hc4
   refine wp_seq ?_
   refine Zb hS qB hB [45,44,4,3,2] [102,101,0] rfl rfl fun a w F hS=>Za (wp_ret (Zm (Zg (Zg (Zm (Zg ?_))))))
   refine Zr hfr hS rfl rfl rfl (.bool hg)
  rw [Int.toNat_natCast] at hc4
  have hqi:Go.Gm.nth u.orders i=Go.Gm.nth v.orders i:=by simpa using hc4
  refine wp_skip (Zi (Za ?_))
  refine Zb hS (qp r1 (qM rfl rfl qZ)) hB [45,44,3,2] [102,101,0] rfl rfl fun a w F hS=>Za ?_
  replace hS:=hS.ent (i:=45) (s':=.pv (.int .i64 ((i+1:Nat):Int))) rfl (.int (Ze (by omega)))
  obtain ⟨F,hS⟩:=hS.nm [45,44,3,2] [102,101,0] rfl rfl
  exact ⟨i+1,F,⟨by omega,fun j hj=>by rcases Nat.lt_or_eq_of_le (Nat.le_of_lt_succ hj) with h | h;exact hq j h;rw [h];exact hqi⟩,hS,by omega⟩
 have hO:u.orders=v.orders:=Zbm hOl fun j hj=>hq j (by simp at hc3;omega)
 have hg:true=decide (u=v):=by
   rw [← Zmr,hT,hO]
   simp
 refine wp_exit (Zk (Zk (Zq (Za (wp_seq ?_)))))
 refine Zb hS qB hB [4] [0] rfl rfl fun a w F hS=>Za (wp_ret ?_)
 refine Zr hfr hS rfl rfl rfl (.bool hg)
def ZnY (l:List TxD):Prop:=l.length≤1000000 ∧ ∀ t ∈ l,t.ops.length≤1000000
def ZmJ (l:List OrdD):Prop:=l.length≤1000000 ∧ ∀ t ∈ l,t.txs.length≤1000000
structure DOk (d:Zip):Prop where
 was:ZnY d.was
 now:ZnY d.now
 old:ZmJ d.old
 new:ZmJ d.new
end Go.Proofs.YtjhapicamnijnaaGreat
