/- Texts put together. No condition beyond those that each theorem says. -/
import Derived.Test.YtjhapicamnijnaaGreatJ0
import Derived.Test.YtjhapicamnijnaaGreatLibW
import Derived.Test.YtjhapicamnijnaaGreatLibX
namespace Go.Proofs.YtjhapicamnijnaaGreat
open Go Go.Gm
set_option linter.unusedVariables false
set_option linter.unusedSimpArgs false
set_option maxHeartbeats 4000000
set_option maxRecDepth 8000
theorem Zj9:∀ (k u:Nat),u<10 ^ k→(Zl4 u).length≤k
 | 0,u,h=>by
   have:u=0:=by simpa using h
   rw [this,ZkG];simp
 | k+1,u,h=>by
   by_cases h0:u=0
   · rw [h0,ZkG];simp
   · rw [Zhh h0]
     unfold ZeG
     have:=Zj9 k (u / 10) (by rw [Nat.pow_succ] at h;omega)
     rw [List.length_append]
     simp only [List.length_cons,List.length_nil]
     omega
theorem Zhp {u:Nat} (h:u≤18446744073709551615):(ZeG u).length≤20:=by
 have:=Zj9 19 (u / 10) (by omega)
 unfold ZeG
 rw [List.length_append]
 simp only [List.length_cons,List.length_nil]
 omega
theorem Zdh {n:Int} (h : -9223372036854775808≤n∧n≤9223372036854775807):n.natAbs≤18446744073709551615:=by omega
structure ZfS (u0 i x:Nat) (l:List UInt8):Prop where
 hl:l.length=i
 hi:i≤20
 hx:x<10 ^ (20 - i)
 hb:x≤18446744073709551615
 ok:(i=0∧x=u0∧l = [])∨(0<i∧(Zl4 x).map toB++l=(ZeG u0).map toB)
theorem ZfS.start {u0:Nat} (h:u0≤18446744073709551615):ZfS u0 0 u0 []:=⟨rfl,by decide,by omega,h,.inl ⟨rfl,rfl,rfl⟩⟩
theorem ZfS.next {u0 i x:Nat} {l:List UInt8} (h:ZfS u0 i x l) (hc:i=0∨0<x):ZfS u0 (i+1) (x / 10) (toB ((48+x % 10:Nat):Int) :: l):=by
 have hi:=h.hi
 have hlt:i<20:=by
   rcases hc with hc | hc
   · omega
   · rcases Nat.lt_or_ge i 20 with h1 | h1
     · exact h1
     · have:=h.hx;rw [show 20 - i=0 by omega] at this;omega
 refine ⟨by rw [List.length_cons,h.hl],by omega,?_,by have:=h.hb;omega,.inr ⟨by omega,?_⟩⟩
 · have:=h.hx
   rw [show 20 - i=(20 - (i+1))+1 by omega,Nat.pow_succ] at this
   omega
 · have e:(Zl4 (x / 10)).map toB++toB ((48+x % 10:Nat):Int) :: l=(ZeG x).map toB++l:=by unfold ZeG;simp
   rw [e]
   rcases h.ok with ⟨_,h3,h4⟩ | ⟨h2,h3⟩
   · rw [h3,h4];simp
   · rw [← Zhh (by omega)];exact h3
theorem ZfS.done {u0 i x:Nat} {l:List UInt8} (h:ZfS u0 i x l) (h1:i≠0) (h2:x=0):l=(ZeG u0).map toB:=by
 rcases h.ok with ⟨h3,_⟩ | ⟨_,h3⟩
 · exact absurd h3 h1
 · rw [h2,ZkG] at h3;simpa using h3
theorem Zc9 (n:Int):FnP Tryz.prog 69 [.int .i64 n] (.bs (textL n)):=by
 refine FnP.mk Tryz.func69 rfl Tryz.ntmps69 rfl ?_
 intro B a w F hB hfr hS
 have hn:=Zca (hS.range (i:=0) rfl)
 have hz:=Zhp (Zdh hn)
 refine wp_seq ?_
 refine Za hS (qf (oN (.cs (by kernel_rfl))) trivial qz qZ) hB [2,0] [0] rfl rfl fun a w F hS=>Zb (wp_seq (wp_seq ?_))
 refine Za hS (qM rfl rfl (qf (Zbu .t qi) r1 qz qZ)) hB [4,2,0] [0] rfl rfl fun a w F hS=>Zb ?_
 refine Zd hS rfl (fun hc0=>?_) (fun hc0=>?_)
 ·skip
  have hb:n<0:=of_decide_eq_true hc0
  have hu:IntKind.wrap .u64 (0 - IntKind.wrap .u64 n)=(n.natAbs:Int):=by rw [ZaT,ZaT];omega
  have hg:textL n=45 :: (ZeG n.natAbs).map toB:=if_pos hb
  refine wp_seq ?_
  refine Za hS (qM rfl rfl (qf (Zb7 Tryz.underlying166 (by kernel_rfl) .t) r1 qz (qf (Zqx .t) r1 qz (qf (oP (Zj1 n.natAbs (Zdh hn)) Tryz.func138 (Args.one (.conv .t (.int hu)))) r1 qz (qf (Zw (.cs (by kernel_rfl)) .t (by simp only [List.length_cons,List.length_nil,List.length_map];omega)) r1 qz (qN rfl rfl qZ)))))) hB [2,0] [0] rfl rfl fun a w F hS=>Zb (wp_ret (Zf ?_))
  refine Zn hfr hS rfl rfl rfl (.bs (by rw [hg];try rfl))
 have hb:¬ n<0:=of_decide_eq_false hc0
 have hu:IntKind.wrap .u64 n=(n.natAbs:Int):=by rw [ZaT];omega
 have hg:textL n=(ZeG n.natAbs).map toB:=if_neg hb
 refine wp_skip (Zb (wp_seq ?_))
 refine Za hS (qM rfl rfl (qf (Zb7 Tryz.underlying166 (by kernel_rfl) .t) r1 qz (qf (oP (Zj1 n.natAbs (Zdh hn)) Tryz.func138 (Args.one (.conv .t (.int hu)))) r1 qz (qN rfl rfl qZ)))) hB [2] [0] rfl rfl fun a w F hS=>Zb (wp_ret ?_)
 refine Zn hfr hS rfl rfl rfl (.bs (by rw [hg];try rfl))
theorem Zat (n:Int):FnP Tryz.prog 115 [.int .i64 n] (.bs (textL n)):=by
 refine FnP.mk Tryz.func115 rfl Tryz.ntmps115 rfl ?_
 intro B a w F hB hfr hS
 have hn:=Zca (hS.range (i:=0) rfl)
 have hz:=Zhp (Zdh hn)
 refine wp_seq ?_
 refine Za hS (qf (oN (.cs (by kernel_rfl))) trivial qz qZ) hB [2,0] [0] rfl rfl fun a w F hS=>Zb (wp_seq ?_)
 refine Za hS (qM rfl rfl (qf (Zb7 Tryz.underlying166 (by kernel_rfl) .t) r1 qz (qN rfl rfl qZ))) hB [3,2,0] [0] rfl rfl fun a w F hS=>Zb (wp_seq (wp_seq ?_))
 refine Za hS (qM rfl rfl (qf (Zbu .t qi) r1 qz qZ)) hB [9,3,2,0] [0] rfl rfl fun a w F hS=>Zb ?_
 refine Zd hS rfl (fun hc0=>?_) (fun hc0=>?_)
 ·skip
  have hb:n<0:=of_decide_eq_true hc0
  have hu:IntKind.wrap .u64 (0 - IntKind.wrap .u64 n)=(n.natAbs:Int):=by rw [ZaT,ZaT];omega
  refine Za hS (qM rfl rfl (qf (o_sub qi .t) r1 qz (qN rfl rfl qZ))) hB [3,2,0] [0] rfl rfl fun a w F hS=>Zb (wp_seq ?_)
  refine Za hS (qf (oN (.cs (by kernel_rfl))) trivial qz qZ) hB [4,3,2,0] [0] rfl rfl fun a w F hS=>Zb (wp_seq (wp_seq ?_))
  refine Za hS (qI qZ) hB [5,4,3,2,0] [0] rfl rfl fun a w F hS=>Zb (wp_block ?_)
  replace hS:=hS.ent (i:=3) (s':=.pv (.int .u64 (n.natAbs:Int))) rfl (.int hu)
  obtain ⟨F,hS⟩:=hS.nm [5,4,3,0] [0] rfl rfl
  refine ZQ (σ:=(Nat×Nat×List UInt8)) (fun s=>(⟨[(0,.pv (.int .i64 n)),(3,.pv (.int .u64 s.2.1)),(4,.pv (.bs s.2.2)),(5,.pv (.int .i64 s.1))],[(0,frame B)]⟩:En)) (fun s=>ZfS n.natAbs s.1 s.2.1 s.2.2) (fun s=>s.2.1+(if s.1=0 then 1 else 0)) (0,n.natAbs,[]) hS (ZfS.start (Zdh hn)) ?_
  clear hS;intro s a w F hC hS
  obtain ⟨i,x,l⟩:=s
  try dsimp only at hC
  try dsimp only at hS
  have hl:=hC.hl
  have hi:=hC.hi
  have hbx:=hC.hb
  try dsimp only at hl hi hbx
  refine wp_seq (wp_seq ?_)
  refine Za hS (qM rfl rfl (qf (o_eql .t qi) r1 qz (qM rfl rfl (qm rfl rfl rfl rfl (qk rfl (fun h=>Zal (.w h) qi) r2 qz (qf (Z4 .t .t) r2 qz qZ)))))) hB [17,5,4,3,0] [0] rfl rfl fun a w F hS=>Zb ?_
  refine Zd hS rfl (fun hc1=>?_) (fun hc1=>?_)
  ·skip
   have hcc:i=0∨0<x:=by simp only [Bool.or_eq_true,decide_eq_true_eq] at hc1;omega
   have hbyte:IntKind.wrap .u8 (IntKind.wrap .u64 (48+(x:Int).tmod 10))=((48+x % 10:Nat):Int):=by rw [Zi4,ZaT,Int.tmod_eq_emod_of_nonneg (by omega)];omega
   refine wp_skip (Zb (wp_seq (wp_block (wp_seq ?_))))
   refine Za hS (qM rfl rfl (qf (ZoX .t qi (by decide)) r1 qz (qf (ZbX qi .t) r1 qz (qf (Zb7 Tryz.underlying5 (by kernel_rfl) .t) r1 qz (qf (Zj (sz:=1) (zs:=[.int .u8 0]) (r:=[(0,.tmp 23)]) (l:=[_]) Tryz.underlying156 (by kernel_rfl) (by kernel_rfl) (by kernel_rfl) (by kernel_rfl) rfl rfl (.one rfl .t one_int (by kernel_rfl) .nil) rfl) r1 qz (qf (ZdM (l:=[IntKind.wrap .u8 (IntKind.wrap .u64 (48+(x:Int).tmod 10))]) Tryz.underlying156 Tryz.underlying5 Tryz.underlying9 (by kernel_rfl) .t) r1 qz (qM rfl rfl (qf (Zw .t .t (by simp only [List.length_cons,List.length_nil,List.length_map];omega)) r2 qz (qN rfl rfl qZ))))))))) hB [5,4,3,0] [0] rfl rfl fun a w F hS=>Zb ?_
   refine Za hS (qM rfl rfl (qf (ZnP .t qi (by decide)) r1 qz (qN rfl rfl qZ))) hB [5,4,3,0] [0] rfl rfl fun a w F hS=>Zh (Zb ?_)
   refine Za hS (qM rfl rfl (qp r1 (qN rfl rfl qZ))) hB [5,4,3,0] [0] rfl rfl fun a w F hS=>Zb ?_
   replace hS:=hS.ent (i:=3) (s':=.pv (.int .u64 ((x / 10:Nat):Int))) rfl (.int (by rw [ZaT,Int.tdiv_eq_ediv_of_nonneg (by omega)];omega))
   replace hS:=hS.ent (i:=4) (s':=.pv (.bs (toB ((48+x % 10:Nat):Int) :: l))) rfl (.bs (by rw [← hbyte];try rfl))
   replace hS:=hS.ent (i:=5) (s':=.pv (.int .i64 ((i+1:Nat):Int))) rfl (.int (Ze (by omega)))
   obtain ⟨F,hS⟩:=hS.nm [5,4,3,0] [0] rfl rfl
   exact ⟨(i+1,x / 10,toB ((48+x % 10:Nat):Int) :: l),F,(hC.next hcc),hS,by dsimp only;split <;> split <;> omega⟩
  have hcc:i≠0∧x=0:=by simp only [Bool.or_eq_false_iff,decide_eq_false_iff_not] at hc1;omega
  have hdd:=hC.done hcc.1 hcc.2
  try dsimp only at hdd
  refine wp_exit (Zi (Zi (Zo (Zb (wp_seq (wp_seq ?_))))))
  refine Za hS (qM rfl rfl (qf (Zbu .t qi) r1 qz qZ)) hB [31,4] [0] rfl rfl fun a w F hS=>Zb ?_
  refine Zd hS rfl (fun hc2=>?_) (fun hc2=>?_)
  ·skip
   have hg:textL n=45 :: (ZeG n.natAbs).map toB:=if_pos (of_decide_eq_true hc2)
   refine wp_seq ?_
   refine Za hS (qM rfl rfl (qf (Zw (.cs (by kernel_rfl)) .t (by simp only [List.length_cons,List.length_nil];omega)) r1 qz (qN rfl rfl qZ))) hB [4,2] [0] rfl rfl fun a w F hS=>Zb (wp_ret (Zf ?_))
   refine Zn hfr hS rfl rfl rfl (.bs (by rw [hg,← hdd];try rfl))
  have hg:textL n=(ZeG n.natAbs).map toB:=if_neg (of_decide_eq_false hc2)
  refine wp_skip (Zb (wp_seq ?_))
  refine Za hS (qM rfl rfl (qN rfl rfl qZ)) hB [2] [0] rfl rfl fun a w F hS=>Zb (wp_ret ?_)
  refine Zn hfr hS rfl rfl rfl (.bs (by rw [hg,← hdd];try rfl))
 have hb:¬ n<0:=of_decide_eq_false hc0
 have hu:IntKind.wrap .u64 n=(n.natAbs:Int):=by rw [ZaT];omega
 refine wp_skip (Zb (wp_seq ?_))
 refine Za hS (qf (oN (.cs (by kernel_rfl))) trivial qz qZ) hB [4,3,2,0] [0] rfl rfl fun a w F hS=>Zb (wp_seq (wp_seq ?_))
 refine Za hS (qI qZ) hB [5,4,3,2,0] [0] rfl rfl fun a w F hS=>Zb (wp_block ?_)
 replace hS:=hS.ent (i:=3) (s':=.pv (.int .u64 (n.natAbs:Int))) rfl (.int hu)
 obtain ⟨F,hS⟩:=hS.nm [5,4,3,0] [0] rfl rfl
 refine ZQ (σ:=(Nat×Nat×List UInt8)) (fun s=>(⟨[(0,.pv (.int .i64 n)),(3,.pv (.int .u64 s.2.1)),(4,.pv (.bs s.2.2)),(5,.pv (.int .i64 s.1))],[(0,frame B)]⟩:En)) (fun s=>ZfS n.natAbs s.1 s.2.1 s.2.2) (fun s=>s.2.1+(if s.1=0 then 1 else 0)) (0,n.natAbs,[]) hS (ZfS.start (Zdh hn)) ?_
 clear hS;intro s a w F hC hS
 obtain ⟨i,x,l⟩:=s
 try dsimp only at hC
 try dsimp only at hS
 have hl:=hC.hl
 have hi:=hC.hi
 have hbx:=hC.hb
 try dsimp only at hl hi hbx
 refine wp_seq (wp_seq ?_)
 refine Za hS (qM rfl rfl (qf (o_eql .t qi) r1 qz (qM rfl rfl (qm rfl rfl rfl rfl (qk rfl (fun h=>Zal (.w h) qi) r2 qz (qf (Z4 .t .t) r2 qz qZ)))))) hB [17,5,4,3,0] [0] rfl rfl fun a w F hS=>Zb ?_
 refine Zd hS rfl (fun hc3=>?_) (fun hc3=>?_)
 ·skip
  have hcc:i=0∨0<x:=by simp only [Bool.or_eq_true,decide_eq_true_eq] at hc3;omega
  have hbyte:IntKind.wrap .u8 (IntKind.wrap .u64 (48+(x:Int).tmod 10))=((48+x % 10:Nat):Int):=by rw [Zi4,ZaT,Int.tmod_eq_emod_of_nonneg (by omega)];omega
  refine wp_skip (Zb (wp_seq (wp_block (wp_seq ?_))))
  refine Za hS (qM rfl rfl (qf (ZoX .t qi (by decide)) r1 qz (qf (ZbX qi .t) r1 qz (qf (Zb7 Tryz.underlying5 (by kernel_rfl) .t) r1 qz (qf (Zj (sz:=1) (zs:=[.int .u8 0]) (r:=[(0,.tmp 23)]) (l:=[_]) Tryz.underlying156 (by kernel_rfl) (by kernel_rfl) (by kernel_rfl) (by kernel_rfl) rfl rfl (.one rfl .t one_int (by kernel_rfl) .nil) rfl) r1 qz (qf (ZdM (l:=[IntKind.wrap .u8 (IntKind.wrap .u64 (48+(x:Int).tmod 10))]) Tryz.underlying156 Tryz.underlying5 Tryz.underlying9 (by kernel_rfl) .t) r1 qz (qM rfl rfl (qf (Zw .t .t (by simp only [List.length_cons,List.length_nil,List.length_map];omega)) r2 qz (qN rfl rfl qZ))))))))) hB [5,4,3,0] [0] rfl rfl fun a w F hS=>Zb ?_
  refine Za hS (qM rfl rfl (qf (ZnP .t qi (by decide)) r1 qz (qN rfl rfl qZ))) hB [5,4,3,0] [0] rfl rfl fun a w F hS=>Zh (Zb ?_)
  refine Za hS (qM rfl rfl (qp r1 (qN rfl rfl qZ))) hB [5,4,3,0] [0] rfl rfl fun a w F hS=>Zb ?_
  replace hS:=hS.ent (i:=3) (s':=.pv (.int .u64 ((x / 10:Nat):Int))) rfl (.int (by rw [ZaT,Int.tdiv_eq_ediv_of_nonneg (by omega)];omega))
  replace hS:=hS.ent (i:=4) (s':=.pv (.bs (toB ((48+x % 10:Nat):Int) :: l))) rfl (.bs (by rw [← hbyte];try rfl))
  replace hS:=hS.ent (i:=5) (s':=.pv (.int .i64 ((i+1:Nat):Int))) rfl (.int (Ze (by omega)))
  obtain ⟨F,hS⟩:=hS.nm [5,4,3,0] [0] rfl rfl
  exact ⟨(i+1,x / 10,toB ((48+x % 10:Nat):Int) :: l),F,(hC.next hcc),hS,by dsimp only;split <;> split <;> omega⟩
 have hcc:i≠0∧x=0:=by simp only [Bool.or_eq_false_iff,decide_eq_false_iff_not] at hc3;omega
 have hdd:=hC.done hcc.1 hcc.2
 try dsimp only at hdd
 refine wp_exit (Zi (Zi (Zo (Zb (wp_seq (wp_seq ?_))))))
 refine Za hS (qM rfl rfl (qf (Zbu .t qi) r1 qz qZ)) hB [31,4] [0] rfl rfl fun a w F hS=>Zb ?_
 refine Zd hS rfl (fun hc4=>?_) (fun hc4=>?_)
 ·skip
  have hg:textL n=45 :: (ZeG n.natAbs).map toB:=if_pos (of_decide_eq_true hc4)
  refine wp_seq ?_
  refine Za hS (qM rfl rfl (qf (Zw (.cs (by kernel_rfl)) .t (by simp only [List.length_cons,List.length_nil];omega)) r1 qz (qN rfl rfl qZ))) hB [4,2] [0] rfl rfl fun a w F hS=>Zb (wp_ret (Zf ?_))
  refine Zn hfr hS rfl rfl rfl (.bs (by rw [hg,← hdd];try rfl))
 have hg:textL n=(ZeG n.natAbs).map toB:=if_neg (of_decide_eq_false hc4)
 refine wp_skip (Zb (wp_seq ?_))
 refine Za hS (qM rfl rfl (qN rfl rfl qZ)) hB [2] [0] rfl rfl fun a w F hS=>Zb (wp_ret ?_)
 refine Zn hfr hS rfl rfl rfl (.bs (by rw [hg,← hdd];try rfl))
def bH (v ad:Value) (l:List UInt8):HP:=.ex fun rv=>.and (l = []→rv = .slice none 0 0) (.star [.pt (.val v) 158 [.pv (.is ad),.pv (.is rv)],.ob (.val rv) (Zy 5 1 rC l)])
def Z3 (v:Value) (l:List UInt8):HP:=.ex fun ad=>.and (ad = .pointer none∨ad=v) (bH v ad l)
theorem FnG.cases {P:Program} {f:FuncId} {args:List PV} {h h1 h2:HP} {q:PV} {qr:Value→List HP} (hh:∀ w fb y,h.p w fb y→h1.p w fb y∨h2.p w fb y) (k1:FnG P f 1 args [h1] q qr) (k2:FnG P f 1 args [h2] q qr):FnG P f 1 args [h] q qr:=fun w F vs hw hle hvs hpr=>by
 rcases hh w (F 1) (U F) (hpr 0 h rfl) with hx | hx
 · exact k1 w F vs hw hle hvs (fun i h' hi=>by
     match i,hi with
     | 0,hi=>simp at hi;subst hi;exact hx)
 · exact k2 w F vs hw hle hvs (fun i h' hi=>by
     match i,hi with
     | 0,hi=>simp at hi;subst hi;exact hx)
theorem Zf9 {v:Value} {l:List UInt8} (w:World) (fb y:Ys) (h:(Z3 v l).p w fb y):(bH v (.pointer none) l).p w fb y∨(bH v v l).p w fb y:=by
 obtain ⟨ad,h1,h2⟩:=h
 rcases h1 with rfl | rfl
 · exact .inl h2
 · exact .inr h2
theorem copy0 (b:Nat) (l:List UInt8):FnG Tryz.prog 186 1 [.is (.pointer (some ⟨b,0,none⟩))] [bH (.pointer (some ⟨b,0,none⟩)) (.pointer none) l] (.any) (fun _=>[bH (.pointer (some ⟨b,0,none⟩)) (.pointer (some ⟨b,0,none⟩)) l]):=by
 refine FnG.mk Tryz.func186 rfl Tryz.ntmps186 rfl (by kernel_rfl) ?_
 intro B F0 a w F hB hG hS
 obtain ⟨rv,hS⟩:=hS.open_ex 1 rfl
 obtain ⟨hI,hS⟩:=hS.open_and 1 rfl
 obtain ⟨F,hS⟩:=hS.peel 1 2 rfl rfl
 obtain ⟨F,hS⟩:=hS.peel 1 3 rfl rfl
 obtain ⟨F,hS⟩:=hS.nm [0] [3,2,0] rfl rfl
 refine wp_seq ?_
 refine Za hS (qM rfl rfl (qf (Zv 2 .is (by rfl)) r1 r1 (qf (oF 0 2 .adr) r1 r1 (qa 2 r1 r1 (qf (ZdU _ Tryz.underlying155 rfl .t) r1 qz qZ))))) hB [6,0] [3,2,0] rfl rfl fun a w F hS=>Zb ?_
 refine Zd hS rfl (fun hc0=>?_) (fun hc0=>?_)
 ·skip
  refine Za hS (qM rfl rfl (qM rfl rfl (qf (ZdT 2 Tryz.underlying155 Tryz.underlying220 (by kernel_rfl) (by kernel_rfl) .t) r1 r1 (qf (Zgo Tryz.func213 (by kernel_rfl) (by kernel_rfl) (by kernel_rfl) (by kernel_rfl) .t) r1 qz (qf (Ze3 2 Tryz.underlying220 Tryz.underlying155 (by kernel_rfl) (by kernel_rfl) .t) r1 r1 (qf (Zv 2 .is (by rfl)) r1 r1 (qf (oF 0 2 .adr) r1 r1 (qf (Zaf 2 .adr .t Zj6 (by kernel_rfl) (by kernel_rfl)) r2 r1 qZ)))))))) hB [] [3,2,0] rfl rfl fun a w F hS=>?_
  have hS:=hS.fresh 1 rfl
  obtain ⟨F,hS⟩:=hS.push 1 3 rfl rfl rfl (by kernel_rfl)
  obtain ⟨F,hS⟩:=hS.push 1 2 rfl rfl rfl (by kernel_rfl)
  have hS:=hS.turn 1 rfl (r':=RS.hp (bH (.pointer (some ⟨b,0,none⟩)) (.pointer (some ⟨b,0,none⟩)) l)) (fun _ _ _ _ h=>⟨_,hI,h⟩)
  refine Zb6 hG hS rfl .nil Zbd.any rfl
 simp at hc0
theorem copy1 (b:Nat) (l:List UInt8):FnG Tryz.prog 186 1 [.is (.pointer (some ⟨b,0,none⟩))] [bH (.pointer (some ⟨b,0,none⟩)) (.pointer (some ⟨b,0,none⟩)) l] (.any) (fun _=>[bH (.pointer (some ⟨b,0,none⟩)) (.pointer (some ⟨b,0,none⟩)) l]):=by
 refine FnG.mk Tryz.func186 rfl Tryz.ntmps186 rfl (by kernel_rfl) ?_
 intro B F0 a w F hB hG hS
 obtain ⟨rv,hS⟩:=hS.open_ex 1 rfl
 obtain ⟨hI,hS⟩:=hS.open_and 1 rfl
 obtain ⟨F,hS⟩:=hS.peel 1 2 rfl rfl
 obtain ⟨F,hS⟩:=hS.peel 1 3 rfl rfl
 obtain ⟨F,hS⟩:=hS.nm [0] [3,2,0] rfl rfl
 refine wp_seq ?_
 refine Za hS (qM rfl rfl (qf (Zv 2 .is (by rfl)) r1 r1 (qf (oF 0 2 .adr) r1 r1 (qa 2 r1 r1 (qf (ZdU _ Tryz.underlying155 rfl .t) r1 qz qZ))))) hB [6,0] [3,2,0] rfl rfl fun a w F hS=>Zb ?_
 refine Zd hS rfl (fun hc0=>?_) (fun hc0=>?_)
 ·skip
  simp at hc0
 refine wp_seq ?_
 refine Za hS (qM rfl rfl (qf (Zv 2 .is (by rfl)) r1 r1 (qf (oF 0 2 .adr) r1 r1 (qa 2 r1 r1 (qM rfl rfl (qf (Zgs Tryz.underlying155 (by kernel_rfl) .t .t) r2 qz qZ)))))) hB [19] [3,2,0] rfl rfl fun a w F hS=>Zb ?_
 refine Zd hS rfl (fun hc1=>?_) (fun hc1=>?_)
 ·skip
  simp at hc1
 refine wp_skip ?_
 have hS:=hS.fresh 1 rfl
 obtain ⟨F,hS⟩:=hS.push 1 3 rfl rfl rfl (by kernel_rfl)
 obtain ⟨F,hS⟩:=hS.push 1 2 rfl rfl rfl (by kernel_rfl)
 have hS:=hS.turn 1 rfl (r':=RS.hp (bH (.pointer (some ⟨b,0,none⟩)) (.pointer (some ⟨b,0,none⟩)) l)) (fun _ _ _ _ h=>⟨_,hI,h⟩)
 refine Zb6 hG hS rfl .nil Zbd.any rfl
theorem Zog (b:Nat) (l:List UInt8):FnG Tryz.prog 186 1 [.is (.pointer (some ⟨b,0,none⟩))] [Z3 (.pointer (some ⟨b,0,none⟩)) l] .any (fun _=>[bH (.pointer (some ⟨b,0,none⟩)) (.pointer (some ⟨b,0,none⟩)) l]):=FnG.cases Zf9 (copy0 b l) (copy1 b l)
theorem ZiW (b:Nat) (l:List UInt8) (hl:l.length≤1000000000) (c:UInt8):FnG Tryz.prog 139 1 [.is (.pointer (some ⟨b,0,none⟩)),.int .u8 (c.toNat:Int)] [Z3 (.pointer (some ⟨b,0,none⟩)) l] (.any) (fun _=>[bH (.pointer (some ⟨b,0,none⟩)) (.pointer (some ⟨b,0,none⟩)) (l ++ [c])]):=by
 refine FnG.mk Tryz.func139 rfl Tryz.ntmps139 rfl (by kernel_rfl) ?_
 intro B F0 a w F hB hG hS
 refine wp_seq ?_
 refine Za hS (qC qZ) hB [4,1,0] [1,0] rfl rfl fun a w F hS=>Zb (wp_seq ?_)
 refine Za hS (qM rfl rfl (qf (o_callG1 1 (Zog b l) Tryz.func186 rfl (by kernel_rfl) (Args.one .t)) r1 r1 qZ)) hB [4,1,0] [1,0] rfl rfl fun a w F hS=>?_
 obtain ⟨rv,hS⟩:=hS.open_ex 1 rfl
 obtain ⟨hI,hS⟩:=hS.open_and 1 rfl
 obtain ⟨F,hS⟩:=hS.peel 1 2 rfl rfl
 obtain ⟨F,hS⟩:=hS.peel 1 3 rfl rfl
 obtain ⟨F,hS⟩:=hS.nm [4,1,0] [3,2,0] rfl rfl
 refine Zb (wp_seq ?_)
 refine Zc hS (qM rfl rfl (qM rfl rfl (qf (Zv 2 .is (by rfl)) r1 r1 (qf (oF 1 2 .adr) r1 r1 (qa 2 r1 r1 (qM rfl rfl (qf (Zj (sz:=1) (zs:=[.int .u8 0]) (r:=[(0,.tmp 12)]) (l:=[_]) Tryz.underlying156 (by kernel_rfl) (by kernel_rfl) (by kernel_rfl) (by kernel_rfl) rfl rfl (.one rfl .t one_int (by kernel_rfl) .nil) rfl) r1 qz (qf (o_append (sz:=1) (bs:=1) 3 (.mk' Tryz.underlying156 (by kernel_rfl) (by kernel_rfl)) (by intro x;rfl) .is (.arr (l':=[c]) .t) (by simp only [List.length_cons,List.length_nil];omega) (by decide)) ⟨rfl,rfl,trivial⟩ ⟨rfl,trivial⟩ (qf (Zv 2 .is (by rfl)) r1 r1 (qf (oF 1 2 .adr) r1 r1 (qf (ZaU 2 .adr (by kernel_rfl) (by kernel_rfl)) r2 r1 qZ))))))))))) hB [4] [3,2,0] (fun _=>rfl) (fun _=>rfl) fun τ a w F hS=>?_
 try dsimp only [RS.sub,SF.sub,CF.sub,csub,Anc.sub,List.map,Zg,xL,xM,Nat.reduceAdd,xD,xE,xT,xU,xC,xN,zCF,ldSF] at hS
 generalize τ 14=v14 at hS
 refine Zb (wp_seq ?_)
 refine Za hS (qC qZ) hB [4] [3,2,0] rfl rfl fun a w F hS=>Zb (wp_ret ?_)
 have hS:=hS.fresh 1 rfl
 obtain ⟨F,hS⟩:=hS.push 1 3 rfl rfl rfl (by kernel_rfl)
 obtain ⟨F,hS⟩:=hS.push 1 2 rfl rfl rfl (by kernel_rfl)
 have hS:=hS.turn 1 rfl (r':=RS.hp (bH (.pointer (some ⟨b,0,none⟩)) (.pointer (some ⟨b,0,none⟩)) (l ++ [c]))) (fun _ _ _ _ h=>⟨_,(by intro hh;simp at hh),h⟩)
 refine Zb6 hG hS rfl (.tmp rfl .nil) Zbd.any rfl
theorem Zas (b:Nat) (l:List UInt8) (hl:l.length≤1000000000) (x:List UInt8) (hx:x≠[]) (hxl:x.length≤1000000000):FnG Tryz.prog 135 1 [.is (.pointer (some ⟨b,0,none⟩)),.bs x] [Z3 (.pointer (some ⟨b,0,none⟩)) l] (.any) (fun _=>[bH (.pointer (some ⟨b,0,none⟩)) (.pointer (some ⟨b,0,none⟩)) (l++x)]):=by
 refine FnG.mk Tryz.func135 rfl Tryz.ntmps135 rfl (by kernel_rfl) ?_
 intro B F0 a w F hB hG hS
 refine wp_seq ?_
 refine Za hS (qI (qC qZ)) hB [5,4,1,0] [1,0] rfl rfl fun a w F hS=>Zb (wp_seq ?_)
 refine Za hS (qM rfl rfl (qf (o_callG1 1 (Zog b l) Tryz.func186 rfl (by kernel_rfl) (Args.one .t)) r1 r1 qZ)) hB [5,4,1,0] [1,0] rfl rfl fun a w F hS=>?_
 obtain ⟨rv,hS⟩:=hS.open_ex 1 rfl
 obtain ⟨hI,hS⟩:=hS.open_and 1 rfl
 obtain ⟨F,hS⟩:=hS.peel 1 2 rfl rfl
 obtain ⟨F,hS⟩:=hS.peel 1 3 rfl rfl
 obtain ⟨F,hS⟩:=hS.nm [5,4,1,0] [3,2,0] rfl rfl
 refine Zb (wp_seq ?_)
 refine Zc hS (qM rfl rfl (qM rfl rfl (qf (Zv 2 .is (by rfl)) r1 r1 (qf (oF 1 2 .adr) r1 r1 (qa 2 r1 r1 (qM rfl rfl (qf (Zem 3 Tryz.underlying156 Tryz.underlying9 (by kernel_rfl) .is .t (by omega)) ⟨rfl,rfl,trivial⟩ ⟨rfl,trivial⟩ (qf (Zv 2 .is (by rfl)) r1 r1 (qf (oF 1 2 .adr) r1 r1 (qf (ZaU 2 .adr (by kernel_rfl) (by kernel_rfl)) r2 r1 qZ)))))))))) hB [5,4,1] [3,2,0] (fun _=>rfl) (fun _=>rfl) fun τ a w F hS=>?_
 try dsimp only [RS.sub,SF.sub,CF.sub,csub,Anc.sub,List.map,Zg,xL,xM,Nat.reduceAdd,xD,xE,xT,xU,xC,xN,zCF,ldSF] at hS
 generalize τ 14=v14 at hS
 refine Zb (wp_seq ?_)
 refine Za hS (qM rfl rfl (qf (Zck Tryz.underlying9 .t) r1 qz (qN rfl rfl (qC qZ)))) hB [5,4] [3,2,0] rfl rfl fun a w F hS=>Zb (wp_ret ?_)
 have hS:=hS.fresh 1 rfl
 obtain ⟨F,hS⟩:=hS.push 1 3 rfl rfl rfl (by kernel_rfl)
 obtain ⟨F,hS⟩:=hS.push 1 2 rfl rfl rfl (by kernel_rfl)
 have hS:=hS.turn 1 rfl (r':=RS.hp (bH (.pointer (some ⟨b,0,none⟩)) (.pointer (some ⟨b,0,none⟩)) (l++x))) (fun _ _ _ _ h=>⟨_,(by intro hh;exact absurd (List.append_eq_nil_iff.1 hh).2 hx),h⟩)
 refine Zb6 hG hS rfl (.tmp rfl (.tmp rfl .nil)) Zbd.any rfl
theorem Zo6 (b:Nat):FnG Tryz.prog 137 1 [.is (.pointer (some ⟨b,0,none⟩))] [Z3 (.pointer (some ⟨b,0,none⟩)) []] (.bs []) (fun _=>[HP.star []]):=by
 refine FnG.mk Tryz.func137 rfl Tryz.ntmps137 rfl (by kernel_rfl) ?_
 intro B F0 a w F hB hG hS
 obtain ⟨ad,hS⟩:=hS.open_ex 1 rfl
 obtain ⟨hA,hS⟩:=hS.open_and 1 rfl
 obtain ⟨rv,hS⟩:=hS.open_ex 1 rfl
 obtain ⟨hI,hS⟩:=hS.open_and 1 rfl
 obtain rfl:=hI rfl
 obtain ⟨F,hS⟩:=hS.peel 1 2 rfl rfl
 obtain ⟨F,hS⟩:=hS.peel 1 3 rfl rfl
 obtain ⟨F,hS⟩:=hS.nm [0] [3,2,0] rfl rfl
 refine wp_seq ?_
 refine Za hS (qf (oN (.cs (by kernel_rfl))) trivial qz qZ) hB [2,0] [3,2,0] rfl rfl fun a w F hS=>Zb (wp_seq ?_)
 refine Zu hS (qM rfl rfl (qf (Zv 2 .is (by rfl)) r1 r1 (qf (oF 1 2 .adr) r1 r1 (qa 2 r1 r1 (qf (ZeW .t) r1 qz (qM rfl rfl (qf (Zv 2 .is (by rfl)) r1 r1 (qf (oF 1 2 .adr) r1 r1 (qa 2 r1 r1 (qf (Z6 3 Tryz.underlying156 .is) r1 r1 (qf (ZdN .t .t) r2 qz (qN rfl rfl qZ)))))))))))) hB [2] [3,2,0] rfl rfl fun a w F hS=>?_
 try dsimp only [List.map,xD,xE,xT,xU,ldSF] at hS
 refine Zb (wp_ret ?_)
 have hS:=hS.fresh 1 rfl
 refine Zb6 (h':=HP.star []) hG hS rfl (.tmp rfl .nil) (.one .refl) rfl
theorem ZoC (b:Nat) (l:List UInt8) (hne:l≠[]):FnG Tryz.prog 137 1 [.is (.pointer (some ⟨b,0,none⟩))] [Z3 (.pointer (some ⟨b,0,none⟩)) l] (.bs l) (fun _=>[HP.star []]):=by
 refine FnG.mk Tryz.func137 rfl Tryz.ntmps137 rfl (by kernel_rfl) ?_
 intro B F0 a w F hB hG hS
 obtain ⟨ad,hS⟩:=hS.open_ex 1 rfl
 obtain ⟨hA,hS⟩:=hS.open_and 1 rfl
 obtain ⟨rv,hS⟩:=hS.open_ex 1 rfl
 obtain ⟨hI,hS⟩:=hS.open_and 1 rfl
 obtain ⟨F,hS⟩:=hS.peel 1 2 rfl rfl
 obtain ⟨F,hS⟩:=hS.peel 1 3 rfl rfl
 obtain ⟨F,hS⟩:=hS.nm [0] [3,2,0] rfl rfl
 refine wp_seq ?_
 refine Za hS (qf (oN (.cs (by kernel_rfl))) trivial qz qZ) hB [2,0] [3,2,0] rfl rfl fun a w F hS=>Zb (wp_seq ?_)
 refine Zu hS (qM rfl rfl (qf (Zv 2 .is (by rfl)) r1 r1 (qf (oF 1 2 .adr) r1 r1 (qa 2 r1 r1 (qf (ZfP 3 hne .is (by rfl)) r1 r1 (qM rfl rfl (qf (Zv 2 .is (by rfl)) r1 r1 (qf (oF 1 2 .adr) r1 r1 (qa 2 r1 r1 (qf (Z6 3 Tryz.underlying156 .is) r1 r1 (qf (Zc7 3 Tryz.underlying201 (by kernel_rfl) hne .t) r2 r1 (qN rfl rfl qZ)))))))))))) hB [2] [3,2,0] rfl rfl fun a w F hS=>?_
 try dsimp only [List.map,xD,xE,xT,xU,ldSF] at hS
 refine Zb (wp_ret ?_)
 have hS:=hS.fresh 1 rfl
 refine Zb6 (h':=HP.star []) hG hS rfl (.tmp rfl .nil) (.one .refl) rfl
theorem Zhq (b:Nat) (l:List UInt8):FnG Tryz.prog 137 1 [.is (.pointer (some ⟨b,0,none⟩))] [Z3 (.pointer (some ⟨b,0,none⟩)) l] (.bs l) (fun _=>[HP.star []]):=by
 by_cases h:l = []
 · subst h;exact Zo6 b
 · exact ZoC b l h
def ZS (l:List Int):Nat→List UInt8
 | 0=>[]
 | i+1=>ZS l i++(if 0<i then [32] else [])++textL (nth l i)
def ZbQ (l:List Int):List UInt8:=ZS l l.length
theorem ZoK (u:Nat):ZeG u≠[]:=by unfold ZeG;simp
theorem Zhk (n:Int):textL n≠[]:=by
 unfold textL
 split
 · simp
 · simpa using ZoK _
theorem ZN {n:Int} (h : -9223372036854775808≤n∧n≤9223372036854775807):(textL n).length≤21:=by
 have:=Zhp (Zdh h)
 unfold textL
 split <;> simp <;> omega
theorem words_c (l:List Int) (hlen:l.length≤1000):FnP Tryz.prog 70 [.sl rInt l] (.bs (ZbQ l)):=by
 refine FnP.mk Tryz.func70 rfl Tryz.ntmps70 rfl ?_
 intro B a w F hB hfr hS
 refine wp_seq ?_
 refine Za hS (qf (oN (.cs (by kernel_rfl))) trivial qz qZ) hB [2,0] [0] rfl rfl fun a w F hS=>Zb (wp_seq ?_)
 refine Zc hS (qf (oH [.pointer none,.slice none 0 0] 101) trivial qz qZ) hB [3,2,0] [101,0] (fun _=>rfl) (fun _=>rfl) fun τ a w F hS=>?_
 try dsimp only [RS.sub,SF.sub,CF.sub,csub,Anc.sub,List.map,zCF] at hS
 generalize τ 3=v3 at hS
 obtain ⟨b,rfl⟩:=hS.shape 101 rfl
 replace hS:=hS.fresh 9 rfl
 replace hS:=hS.turn 9 rfl (Zav (T:=5) (sz:=1) (R:=rC))
 replace hS:=hS.fresh 10 rfl
 obtain ⟨F,hS⟩:=hS.push 10 9 rfl rfl rfl (by kernel_rfl)
 obtain ⟨F,hS⟩:=hS.push 10 101 rfl rfl rfl (by kernel_rfl)
 replace hS:=hS.turn 10 rfl (r':=RS.hp (Z3 (.pointer (some ⟨b,0,none⟩)) (ZS l 0))) (fun _ _ _ _ h=>⟨_,.inl rfl,_,fun _=>rfl,h⟩)
 obtain ⟨F,hS⟩:=hS.nm [3,2,0] [10,0] rfl rfl
 refine Zb (wp_seq (wp_seq ?_))
 refine Za hS (qM rfl rfl (qu Tryz.underlying41 r1 (qJ qZ))) hB [8,7,6,3,2] [10,0] rfl rfl fun a w F hS=>Zb (wp_block ?_)
 obtain ⟨F,hS⟩:=hS.nm [8,7,6,3] [10,0] rfl rfl
 refine ZQ (σ:=Nat) (fun s=>(⟨[(3,.pv (.is (.pointer (some ⟨b,0,none⟩)))),(6,.pv (.sl rInt l)),(7,.pv (.int .i64 l.length)),(8,.pv (.int .i64 s))],[(0,frame B),(10,RS.hp (Z3 (.pointer (some ⟨b,0,none⟩)) (ZS l s)))]⟩:En)) (fun s=>s≤l.length∧(ZS l s).length≤22*s) (fun s=>l.length - s) 0 hS ⟨Nat.zero_le _,Nat.le_refl _⟩ ?_
 clear hS;intro i a w F hC hS
 try dsimp only at hC
 try dsimp only at hS
 obtain ⟨hi,hw⟩:=hC
 refine wp_seq ?_
 refine Za hS (qL r2) hB [9,8,7,6,3] [10,0] rfl rfl fun a w F hS=>Zb (wp_seq ?_)
 refine Zd hS rfl (fun hc0=>?_) (fun hc0=>?_)
 ·skip
  have hil:i<l.length:=by simp at hc0;omega
  refine wp_skip (Zb (wp_seq (wp_block (wp_seq ?_))))
  refine Za hS (qM rfl rfl (qy 1 Tryz.underlying41 r2 (qf (oR false 1 .t) r1 qz (qN rfl rfl (qN rfl rfl qZ))))) hB [8,7,6,5,4,3] [10,0] rfl rfl fun a w F hS=>?_
  have hn:=Zca (hS.range (i:=5) rfl)
  rw [Int.toNat_natCast] at hS hn
  have htl:=ZN hn
  refine Zb (wp_seq (wp_seq ?_))
  refine Za hS (qM rfl rfl (qf (Zal .t qi) r1 qz qZ)) hB [14,8,7,6,5,3] [10,0] rfl rfl fun a w F hS=>Zb ?_
  refine Zd hS rfl (fun hc1=>?_) (fun hc1=>?_)
  ·skip
   refine Za hS (qf (o_callG1 10 (ZiW b (ZS l i) (by omega) 32) Tryz.func139 rfl (by kernel_rfl) (Args.two .t qi)) r1 r1 qZ) hB [8,7,6,5,3] [10,0] rfl rfl fun a w F hS=>?_
   have hi0:0<i:=by simp at hc1;omega
   obtain ⟨q2,hq2⟩:∃ q2,q2=ZS l i++(if 0<i then [32] else []):=⟨_,rfl⟩
   have hql:q2.length≤22*i+1:=by rw [hq2];split <;> simp <;> omega
   replace hS:=hS.turn 10 rfl (r':=RS.hp (Z3 (.pointer (some ⟨b,0,none⟩)) q2)) (fun _ _ _ _ h=>⟨_,.inr rfl,by rw [hq2,if_pos hi0];exact h⟩)
   refine Zb ?_
   refine Za hS (qM rfl rfl (qf (oP (Zc9 (nth l i)) Tryz.func69 (Args.one .t)) r1 qz (qf (o_callG1 10 (Zas b q2 (by omega) (textL (nth l i)) (Zhk _) (by have:=ZN hn;omega)) Tryz.func135 rfl (by kernel_rfl) (Args.two .t .t)) r2 r1 qZ))) hB [8,7,6,3] [10,0] rfl rfl fun a w F hS=>Zh (Zb ?_)
   refine Za hS (qp r1 (qM rfl rfl qZ)) hB [8,7,6,3] [10,0] rfl rfl fun a w F hS=>Zb ?_
   replace hS:=hS.turn 10 rfl (r':=RS.hp (Z3 (.pointer (some ⟨b,0,none⟩)) (ZS l (i+1)))) (fun _ _ _ _ h=>⟨_,.inr rfl,by rw [ZS,← hq2];exact h⟩)
   replace hS:=hS.ent (i:=8) (s':=.pv (.int .i64 ((i+1:Nat):Int))) rfl (.int (Ze (by omega)))
   obtain ⟨F,hS⟩:=hS.nm [8,7,6,3] [10,0] rfl rfl
   exact ⟨i+1,F,⟨by omega,by rw [ZS,← hq2,List.length_append];omega⟩,hS,by omega⟩
  have hi0:¬ 0<i:=by simp at hc1;omega
  obtain ⟨q2,hq2⟩:∃ q2,q2=ZS l i++(if 0<i then [32] else []):=⟨_,rfl⟩
  have hql:q2.length≤22*i+1:=by rw [hq2];split <;> simp <;> omega
  rw [show ZS l i=q2 by rw [hq2,if_neg hi0,List.append_nil]] at hS
  refine wp_skip (Zb ?_)
  refine Za hS (qM rfl rfl (qf (oP (Zc9 (nth l i)) Tryz.func69 (Args.one .t)) r1 qz (qf (o_callG1 10 (Zas b q2 (by omega) (textL (nth l i)) (Zhk _) (by have:=ZN hn;omega)) Tryz.func135 rfl (by kernel_rfl) (Args.two .t .t)) r2 r1 qZ))) hB [8,7,6,3] [10,0] rfl rfl fun a w F hS=>Zh (Zb ?_)
  refine Za hS (qp r1 (qM rfl rfl qZ)) hB [8,7,6,3] [10,0] rfl rfl fun a w F hS=>Zb ?_
  replace hS:=hS.turn 10 rfl (r':=RS.hp (Z3 (.pointer (some ⟨b,0,none⟩)) (ZS l (i+1)))) (fun _ _ _ _ h=>⟨_,.inr rfl,by rw [ZS,← hq2];exact h⟩)
  replace hS:=hS.ent (i:=8) (s':=.pv (.int .i64 ((i+1:Nat):Int))) rfl (.int (Ze (by omega)))
  obtain ⟨F,hS⟩:=hS.nm [8,7,6,3] [10,0] rfl rfl
  exact ⟨i+1,F,⟨by omega,by rw [ZS,← hq2,List.length_append];omega⟩,hS,by omega⟩
 have hil:i=l.length:=by simp at hc0;omega
 rw [hil] at hS
 refine wp_exit (Zi (Zi (Zo (Zb (wp_seq ?_)))))
 refine Za hS (qf (o_callG1 10 (Zhq b (ZS l l.length)) Tryz.func137 rfl (by kernel_rfl) (Args.one .t)) r1 r1 (qN rfl rfl qZ)) hB [2] [10,0] rfl rfl fun a w F hS=>Zb (wp_ret ?_)
 refine Zn hfr hS rfl rfl rfl (.bs rfl)
theorem ZkZ (l:List Int) (hlen:l.length≤1000):FnP Tryz.prog 116 [.sl rInt l] (.bs (ZbQ l)):=by
 refine FnP.mk Tryz.func116 rfl Tryz.ntmps116 rfl ?_
 intro B a w F hB hfr hS
 refine wp_seq ?_
 refine Za hS (qf (oN (.cs (by kernel_rfl))) trivial qz qZ) hB [2,0] [0] rfl rfl fun a w F hS=>Zb (wp_seq ?_)
 refine Za hS (qf (oN (.cs (by kernel_rfl))) trivial qz qZ) hB [3,2,0] [0] rfl rfl fun a w F hS=>Zb (wp_seq (wp_seq ?_))
 refine Za hS (qM rfl rfl (qu Tryz.underlying41 r1 (qJ qZ))) hB [8,7,6,3,2] [0] rfl rfl fun a w F hS=>Zb (wp_block ?_)
 obtain ⟨F,hS⟩:=hS.nm [8,7,6,3] [0] rfl rfl
 refine ZQ (σ:=Nat) (fun s=>(⟨[(3,.pv (.bs (ZS l s))),(6,.pv (.sl rInt l)),(7,.pv (.int .i64 l.length)),(8,.pv (.int .i64 s))],[(0,frame B)]⟩:En)) (fun s=>s≤l.length∧(ZS l s).length≤22*s) (fun s=>l.length - s) 0 hS ⟨Nat.zero_le _,Nat.le_refl _⟩ ?_
 clear hS;intro i a w F hC hS
 try dsimp only at hC
 try dsimp only at hS
 obtain ⟨hi,hw⟩:=hC
 refine wp_seq ?_
 refine Za hS (qL r2) hB [9,8,7,6,3] [0] rfl rfl fun a w F hS=>Zb (wp_seq ?_)
 refine Zd hS rfl (fun hc0=>?_) (fun hc0=>?_)
 ·skip
  have hil:i<l.length:=by simp at hc0;omega
  refine wp_skip (Zb (wp_seq (wp_block (wp_seq ?_))))
  refine Za hS (qM rfl rfl (qy 1 Tryz.underlying41 r2 (qf (oR false 1 .t) r1 qz (qN rfl rfl (qN rfl rfl qZ))))) hB [8,7,6,5,4,3] [0] rfl rfl fun a w F hS=>?_
  have hn:=Zca (hS.range (i:=5) rfl)
  rw [Int.toNat_natCast] at hS hn
  have htl:=ZN hn
  refine Zb (wp_seq (wp_seq ?_))
  refine Za hS (qM rfl rfl (qf (Zal .t qi) r1 qz qZ)) hB [14,8,7,6,5,3] [0] rfl rfl fun a w F hS=>Zb ?_
  refine Zd hS rfl (fun hc1=>?_) (fun hc1=>?_)
  ·skip
   refine Za hS (qM rfl rfl (qf (Zw .t (.cs (by kernel_rfl)) (by simp only [List.length_cons,List.length_nil];omega)) r1 qz (qN rfl rfl qZ))) hB [8,7,6,5,3] [0] rfl rfl fun a w F hS=>?_
   have hi0:0<i:=by simp at hc1;omega
   obtain ⟨q2,hq2⟩:∃ q2,q2=ZS l i++(if 0<i then [32] else []):=⟨_,rfl⟩
   have hql:q2.length≤22*i+1:=by rw [hq2];split <;> simp <;> omega
   replace hS:=hS.ent (i:=3) (s':=.pv (.bs q2)) rfl (.bs (by rw [hq2,if_pos hi0]))
   refine Zb ?_
   refine Za hS (qM rfl rfl (qM rfl rfl (qf (oP (Zat (nth l i)) Tryz.func115 (Args.one .t)) r1 qz (qf (Zw .t .t (by omega)) r2 qz (qN rfl rfl qZ))))) hB [8,7,6,3] [0] rfl rfl fun a w F hS=>Zh (Zb ?_)
   refine Za hS (qp r1 (qM rfl rfl qZ)) hB [8,7,6,3] [0] rfl rfl fun a w F hS=>Zb ?_
   replace hS:=hS.ent (i:=8) (s':=.pv (.int .i64 ((i+1:Nat):Int))) rfl (.int (Ze (by omega)))
   replace hS:=hS.ent (i:=3) (s':=.pv (.bs (ZS l (i+1)))) rfl (.bs (by rw [ZS,← hq2]))
   obtain ⟨F,hS⟩:=hS.nm [8,7,6,3] [0] rfl rfl
   exact ⟨i+1,F,⟨by omega,by rw [ZS,← hq2,List.length_append];omega⟩,hS,by omega⟩
  have hi0:¬ 0<i:=by simp at hc1;omega
  obtain ⟨q2,hq2⟩:∃ q2,q2=ZS l i++(if 0<i then [32] else []):=⟨_,rfl⟩
  have hql:q2.length≤22*i+1:=by rw [hq2];split <;> simp <;> omega
  rw [show ZS l i=q2 by rw [hq2,if_neg hi0,List.append_nil]] at hS
  refine wp_skip (Zb ?_)
  refine Za hS (qM rfl rfl (qM rfl rfl (qf (oP (Zat (nth l i)) Tryz.func115 (Args.one .t)) r1 qz (qf (Zw .t .t (by omega)) r2 qz (qN rfl rfl qZ))))) hB [8,7,6,3] [0] rfl rfl fun a w F hS=>Zh (Zb ?_)
  refine Za hS (qp r1 (qM rfl rfl qZ)) hB [8,7,6,3] [0] rfl rfl fun a w F hS=>Zb ?_
  replace hS:=hS.ent (i:=8) (s':=.pv (.int .i64 ((i+1:Nat):Int))) rfl (.int (Ze (by omega)))
  replace hS:=hS.ent (i:=3) (s':=.pv (.bs (ZS l (i+1)))) rfl (.bs (by rw [ZS,← hq2]))
  obtain ⟨F,hS⟩:=hS.nm [8,7,6,3] [0] rfl rfl
  exact ⟨i+1,F,⟨by omega,by rw [ZS,← hq2,List.length_append];omega⟩,hS,by omega⟩
 have hil:i=l.length:=by simp at hc0;omega
 rw [hil] at hS
 refine wp_exit (Zi (Zi (Zo (Zb (wp_seq ?_)))))
 refine Za hS (qM rfl rfl (qN rfl rfl qZ)) hB [2] [0] rfl rfl fun a w F hS=>Zb (wp_ret ?_)
 refine Zn hfr hS rfl rfl rfl (.bs rfl)
structure ZqK where
 src:Int
 dst:Int
 kind:Int
 key:Int
 deriving DecidableEq,Inhabited
structure ZbP where
 tx:Int
 key:Int
 nth:Int
 deriving DecidableEq,Inhabited
def ZC (v:ZbP):List PV:=[.int .i64 v.tx,.int .i64 v.key,.int .i64 v.nth]
def noV:ZbP:=⟨0,0,0⟩
def idB (n:Int):Bool:=decide (1≤n) && decide (n≤1048575)
def Zbp (v:ZbP):Bool:=if v.tx=0 then idB v.key && decide (v.nth=0) else ((idB v.tx && idB v.key) && decide (1≤v.nth)) && decide (v.nth≤4095)
def Zp6 (v:ZbP):Int:=(v.tx*1048576+v.key)*4096+v.nth
def Zoq (v:ZbP):Int×Int:=if Zbp v then (Zp6 v,0) else (0,1)
theorem ZfR {n:Int} : idB n=true ↔ 1≤n∧n≤1048575:=by unfold idB;rw [Bool.and_eq_true,decide_eq_true_eq,decide_eq_true_eq]
theorem ZkW (k:Int):decide (k<1) = !decide (1≤k):=by rw [← decide_not];exact decide_eq_decide.2 (by omega)
theorem Zl9 (m k:Int):decide (m<k) = !decide (k≤m):=by rw [← decide_not];exact decide_eq_decide.2 (by omega)
theorem or64 (x y:Nat) (hx:x<18446744073709551616) (hy:y<18446744073709551616):bits .or .u64 (x:Int) (y:Int)=((x ||| y:Nat):Int):=by
 have h1:(BitVec.ofInt 64 (x:Int)).toNat=x:=by rw [BitVec.toNat_ofInt];omega
 have h2:(BitVec.ofInt 64 (y:Int)).toNat=y:=by rw [BitVec.toNat_ofInt];omega
 show IntKind.wrap .u64 (((BitVec.ofInt 64 (x:Int) ||| BitVec.ofInt 64 (y:Int)).toNat:Nat):Int)=_
 rw [BitVec.toNat_or,h1,h2]
 exact ZdD (by have:=Nat.or_lt_two_pow (n:=64) hx hy;omega)
theorem Zqh {q:Nat} (h:q<18446744073709551616):IntKind.wrap .u64 (q:Int)=q:=ZdD (by omega)
theorem Zol {K:Int} (k:Nat) (hk:min K.toNat (IntKind.bits .u64)=k) (x y:Int) (hx:0≤x) (hy:0≤y) (hyk:y<2 ^ k) (hb:x*2 ^ k+y<18446744073709551616):bits .or .u64 (IntKind.wrap .u64 (x*2 ^ min K.toNat (IntKind.bits .u64))) y=x*2 ^ k+y:=by
 obtain ⟨X,rfl⟩:=Int.eq_ofNat_of_zero_le hx
 obtain ⟨Y,rfl⟩:=Int.eq_ofNat_of_zero_le hy
 rw [hk]
 have e2:(X:Int)*2 ^ k=((X*2 ^ k:Nat):Int):=by rw [Int.natCast_mul,Int.natCast_pow];rfl
 have hY:Y<2 ^ k:=by exact_mod_cast hyk
 have hor:X*2 ^ k ||| Y=X*2 ^ k+Y:=by rw [Nat.mul_comm];exact (Nat.two_pow_add_eq_or_of_lt hY X).symm
 rw [e2] at hb ⊢
 generalize X*2 ^ k=Q at hb hor ⊢
 rw [Zqh (by omega),or64 _ _ (by omega) (by omega),hor]
 omega
theorem Zkd {v:ZbP} (h:Zbp v=true):bits .or .u64 (IntKind.wrap .u64 (bits .or .u64 (IntKind.wrap .u64 (IntKind.wrap .u64 v.tx*2 ^ min (20:Int).toNat (IntKind.bits .u64))) (IntKind.wrap .u64 v.key)*2 ^ min (12:Int).toNat (IntKind.bits .u64))) (IntKind.wrap .u64 v.nth)=Zp6 v:=by
 have hb:(0≤v.tx∧v.tx≤1048575)∧(1≤v.key∧v.key≤1048575)∧(0≤v.nth∧v.nth≤4095):=by
   unfold Zbp at h
   split at h <;> simp only [Bool.and_eq_true,decide_eq_true_eq,ZfR] at h <;> omega
 obtain ⟨h1,h2,h3⟩:=hb
 rw [ZdD (x:=v.tx) (by omega),ZdD (x:=v.key) (by omega),ZdD (x:=v.nth) (by omega)]
 rw [Zol 20 rfl v.tx v.key (by omega) (by omega) (by omega) (by omega),Zol 12 rfl (v.tx*2 ^ 20+v.key) v.nth (by omega) (by omega) (by omega) (by omega)]
 unfold Zp6
 omega
theorem ZqC (n:Int):FnP Tryz.prog 192 [.int .i64 n] (.bool (idB n)):=by
 refine FnP.mk Tryz.func192 rfl Tryz.ntmps192 rfl ?_
 intro B a w F hB hfr hS
 refine wp_seq ?_
 refine Za hS qB hB [2,0] [0] rfl rfl fun a w F hS=>Zb (wp_seq ?_)
 refine Za hS (qM rfl rfl (qf (ZbF .t qi) r1 qz (qM rfl rfl (qm rfl rfl rfl rfl (qk rfl (fun h=>Zle (.w h) qi) r2 qz (qf (ZA .t .t) r2 qz (qN rfl rfl qZ))))))) hB [2] [0] rfl rfl fun a w F hS=>Zb (wp_ret ?_)
 refine Zn hfr hS rfl rfl rfl .refl
theorem Zd4 (n:Int):FnP Tryz.prog 146 [.int .i64 n] (.bool (idB n)):=by
 refine FnP.mk Tryz.func146 rfl Tryz.ntmps146 rfl ?_
 intro B a w F hB hfr hS
 refine wp_seq ?_
 refine Za hS qB hB [2,0] [0] rfl rfl fun a w F hS=>Zb (wp_seq ?_)
 refine Za hS (qM rfl rfl (qf (ZbF .t qi) r1 qz (qM rfl rfl (qm rfl rfl rfl rfl (qk rfl (fun h=>Zle (.w h) qi) r2 qz (qf (ZA .t .t) r2 qz (qN rfl rfl qZ))))))) hB [2] [0] rfl rfl fun a w F hS=>Zb (wp_ret ?_)
 refine Zn hfr hS rfl rfl rfl .refl
theorem Zgr (v:ZbP):((!(decide (v.tx=0) && decide (v.nth=0)) && ((!idB v.tx || decide (v.nth<1)) || decide (4095<v.nth))) || !idB v.key) = !Zbp v:=by
 unfold Zbp
 by_cases h:v.tx=0
 · rw [if_pos h,decide_eq_true h]
   have hi:idB v.tx=false:=by rw [h];rfl
   rw [hi]
   cases decide (v.nth=0) <;> cases idB v.key <;> simp
 · rw [if_neg h,decide_eq_false h,ZkW,Zl9 4095]
   cases idB v.tx <;> cases idB v.key <;> cases decide (1≤v.nth) <;> cases decide (v.nth≤4095) <;> rfl
theorem ZmP (v:ZbP):FnP Tryz.prog 158 [.agg (ZC v)] (.tup [.int .u64 (Zoq v).1,.int .i64 (Zoq v).2]):=by
 refine FnP.mk Tryz.func158 rfl Tryz.ntmps158 rfl ?_
 intro B a w F hB hfr hS
 refine wp_seq ?_
 refine Zc hS (qx 101 r1 (qI (qI qZ))) hB [3,2,1] [101,0] (fun _=>rfl) (fun _=>rfl) fun τ a w F hS=>?_
 try dsimp only [RS.sub,SF.sub,CF.sub,csub,Anc.sub,List.map,zCF] at hS
 generalize τ 1=v1 at hS
 refine Zb (wp_seq ?_)
 refine Za hS (qg 0 101 r1 r1 (qa 101 r1 r1 (qf (o_eql .t qi) r1 qz (qM rfl rfl (qv 2 101 rfl r2 r1 (qw 101 rfl r2 r1 (qk rfl (fun h=>o_eql (.w h) qi) r2 qz (qf (ZA .t .t) r2 qz (qN rfl rfl qZ))))))))) hB [4,3,2,1] [101,0] rfl rfl fun a w F hS=>Zb (wp_seq (wp_seq ?_))
 refine Za hS (qM rfl rfl (qf (o_not .t) r1 qz (qM rfl rfl (qv 0 101 rfl r2 r1 (qw 101 rfl r2 r1 (qk rfl (fun h=>oP (ZqC _) Tryz.func192 (Args.one (.w h))) r2 qz (qk rfl (fun h=>o_not (.w h)) r2 qz (qk rfl (fun h=>oM (.w h)) r2 qz (ZM.cons (ZeD.cond2 rfl rfl (fun h=>Zba (off:=2) 101 .is (by kernel_rfl) (by rfl))) r2 r1 (ZM.cons (ZeD.cond2 rfl rfl (fun h=>ZfB (ag:=false) (sz:=1) 101 (.w h .adr) (by kernel_rfl) (by kernel_rfl) (by kernel_rfl) (by rfl))) r2 r1 (ZM.cons (ZeD.cond2 rfl rfl (fun h=>Zbu (.w h) qi)) r2 qz (qk rfl (fun h=>Z4 (.w h) (.wc h)) r3 qz (qk rfl (fun h=>oM (.w h)) r2 qz (ZM.cons (ZeD.cond2 rfl rfl (fun h=>Zba (off:=2) 101 .is (by kernel_rfl) (by rfl))) r2 r1 (ZM.cons (ZeD.cond2 rfl rfl (fun h=>ZfB (ag:=false) (sz:=1) 101 (.w h .adr) (by kernel_rfl) (by kernel_rfl) (by kernel_rfl) (by rfl))) r2 r1 (ZM.cons (ZeD.cond2 rfl rfl (fun h=>Zal (.w h) qi)) r2 qz (qk rfl (fun h=>Z4 (.w h) (.wc h)) r3 qz (qf (ZA .t .t) r2 qz (qM rfl rfl (qv 1 101 rfl r2 r1 (qw 101 rfl r2 r1 (qk rfl (fun h=>oP (ZqC _) Tryz.func192 (Args.one (.w h))) r2 qz (qk rfl (fun h=>o_not (.w h)) r2 qz (qf (Z4 .t .t) r2 qz qZ)))))))))))))))))))))))) hB [36,3,2,1] [101,0] rfl rfl fun a w F hS=>?_
 try dsimp only [List.map,xD,xE,xT,xU,ldSF] at hS
 refine Zb ?_
 refine Zd hS rfl (fun hc0=>?_) (fun hc0=>?_)
 ·skip
  rw [Zgr] at hc0
  have hr:Zbp v=false:=by simpa using hc0
  have hg:Zoq v=(0,1):=by unfold Zoq;rw [hr];rfl
  refine wp_seq ?_
  refine Za hS (qI (qI qZ)) hB [3,2,1] [101,0] rfl rfl fun a w F hS=>Zb (wp_ret (Zf ?_))
  refine Zr hfr hS rfl (.tmp rfl (.tmp rfl .nil)) (.two (.int (by rw [hg];try exact Zkd hr)) (.int (by rw [hg])))
 rw [Zgr] at hc0
 have hr:Zbp v=true:=by simpa using hc0
 have hg:Zoq v=(Zp6 v,0):=if_pos hr
 refine wp_skip (Zb (wp_seq ?_))
 refine Za hS (qg 0 101 r1 r1 (qa 101 r1 r1 (qf (Zb7 Tryz.underlying166 (by kernel_rfl) .t) r1 qz (qf (ZpO .t qi (by decide)) r1 qz (qg 1 101 r1 r1 (qa 101 r1 r1 (qf (Zb7 Tryz.underlying166 (by kernel_rfl) .t) r1 qz (qf (ZqD .t .t) r2 qz (qf (ZpO .t qi (by decide)) r1 qz (qg 2 101 r1 r1 (qa 101 r1 r1 (qf (Zb7 Tryz.underlying166 (by kernel_rfl) .t) r1 qz (qf (ZqD .t .t) r2 qz (qN rfl rfl (qI qZ))))))))))))))) hB [3,2] [0] rfl rfl fun a w F hS=>Zb (wp_ret ?_)
 refine Zr hfr hS rfl (.tmp rfl (.tmp rfl .nil)) (.two (.int (by rw [hg];try exact Zkd hr)) (.int (by rw [hg])))
theorem Zn8 (v:ZbP):FnP Tryz.prog 189 [.agg (ZC v)] (.bool (Zbp v)):=by
 refine FnP.mk Tryz.func189 rfl Tryz.ntmps189 rfl ?_
 intro B a w F hB hfr hS
 refine wp_seq ?_
 refine Zc hS (qx 101 r1 qB) hB [2,1] [101,0] (fun _=>rfl) (fun _=>rfl) fun τ a w F hS=>?_
 try dsimp only [RS.sub,SF.sub,CF.sub,csub,Anc.sub,List.map,zCF] at hS
 generalize τ 1=v1 at hS
 refine Zb (wp_seq (wp_seq ?_))
 refine Za hS (qg 0 101 r1 r1 (qa 101 r1 r1 (qf (o_eql .t qi) r1 qz qZ))) hB [5,2,1] [101,0] rfl rfl fun a w F hS=>Zb ?_
 refine Zd hS rfl (fun hc0=>?_) (fun hc0=>?_)
 ·skip
  have h0:v.tx=0:=of_decide_eq_true hc0
  refine wp_seq ?_
  refine Za hS (qg 1 101 r1 r1 (qa 101 r1 r1 (qf (oP (Zd4 _) Tryz.func146 (Args.one .t)) r1 qz (qM rfl rfl (qv 2 101 rfl r2 r1 (qw 101 rfl r2 r1 (qk rfl (fun h=>o_eql (.w h) qi) r2 qz (qf (ZA .t .t) r2 qz (qN rfl rfl qZ))))))))) hB [2,1] [101,0] rfl rfl fun a w F hS=>Zb (wp_ret (Zf ?_))
  refine Zn hfr hS rfl rfl rfl (.bool (by unfold Zbp;first | rw [if_pos h0] | rw [if_neg h0]))
 have h0:¬ v.tx=0:=of_decide_eq_false hc0
 refine wp_skip (Zb (wp_seq ?_))
 refine Za hS (qg 0 101 r1 r1 (qa 101 r1 r1 (qf (oP (Zd4 _) Tryz.func146 (Args.one .t)) r1 qz (qM rfl rfl (qv 1 101 rfl r2 r1 (qw 101 rfl r2 r1 (qk rfl (fun h=>oP (Zd4 _) Tryz.func146 (Args.one (.w h))) r2 qz (qf (ZA .t .t) r2 qz (qM rfl rfl (qv 2 101 rfl r2 r1 (qw 101 rfl r2 r1 (qk rfl (fun h=>ZbF (.w h) qi) r2 qz (qf (ZA .t .t) r2 qz (qM rfl rfl (qv 2 101 rfl r2 r1 (qw 101 rfl r2 r1 (qk rfl (fun h=>Zle (.w h) qi) r2 qz (qf (ZA .t .t) r2 qz (qN rfl rfl qZ))))))))))))))))))) hB [2] [0] rfl rfl fun a w F hS=>Zb (wp_ret ?_)
 refine Zn hfr hS rfl rfl rfl (.bool (by unfold Zbp;first | rw [if_pos h0] | rw [if_neg h0]))
def Zau:List (List UInt8)→List UInt8
 | []=>[]
 | [x]=>x
 | x :: y :: r=>x++32 :: Zau (y :: r)
theorem take_set {α:Type} {q:List α} {i:Nat} {v:α} (h:i<q.length):(q.set i v).take (i+1)=q.take i ++ [v]:=by
 rw [List.take_succ_eq_append_getElem (by simpa using h),List.getElem_set_self,List.take_set_of_le (Nat.le_refl _)]
theorem ne_of_lt {l:List UInt8} {k:Nat} (h:k<l.length):l≠[]:=by intro e;rw [e] at h;simp at h
def bZ (v ad:Value):HP:=.star [.pt (.val v) 158 [.pv (.is ad),.pv (.is (.slice none 0 0))],.ob (.val (.slice none 0 0)) (Zy 5 1 rC [])]
def bW (v:Value) (l:List UInt8):HP:=.ex fun rv=>.star [.pt (.val v) 158 [.pv (.is v),.pv (.is rv)],.ob (.val rv) (Zy 5 1 rC l)]
def sumL (l:List (List UInt8)):Nat:=(l.map List.length).sum
theorem Zhb (l:List (List UInt8)) (i:Nat) (h:i<l.length):sumL (l.take (i+1))=sumL (l.take i)+(nth l i).length:=by
 unfold sumL
 rw [List.take_succ_eq_append_getElem h,Zq h]
 simp only [List.map_append,List.sum_append,List.map_cons,List.map_nil,List.sum_cons,List.sum_nil,Nat.add_zero]
theorem ZkI (l:List (List UInt8)) (i:Nat):sumL (l.take i)≤sumL l:=by
 conv=>rhs;rw [← List.take_append_drop i l]
 unfold sumL
 rw [List.map_append,List.sum_append]
 omega
theorem Zm0 {l:List (List UInt8)} {i:Nat} (h:i<l.length):(nth l i).length≤sumL l:=by
 have h1:=Zhb l i h
 have h2:=ZkI l (i+1)
 omega
theorem Zkr:∀ l:List (List UInt8),(Zau l).length≤sumL l+l.length
 | []=>by simp [Zau]
 | [x]=>by simp [Zau,sumL]
 | x :: y :: r=>by
   have:=Zkr (y :: r)
   simp [Zau,sumL] at this ⊢
   omega
theorem ZeY:∀ (l:List (List UInt8)) (x:List UInt8),l≠[]→Zau (l ++ [x])=Zau l ++ [32] ++ x
 | [],x,h=>absurd rfl h
 | [a],x,_=>by simp [Zau]
 | a :: b :: r,x,_=>by
   have:=ZeY (b :: r) x (by simp)
   simp only [List.cons_append] at this ⊢
   rw [Zau,this,Zau]
   simp
theorem Zlx {l:List (List UInt8)} {i:Nat} (h:i+1<l.length):Zau (l.take (i+2))=Zau (l.take (i+1)) ++ [32] ++ nth (l.drop 1) i:=by
 rw [show i+2=(i+1)+1 from rfl,List.take_succ_eq_append_getElem h,ZeY _ _ (by intro e;have:=congrArg List.length e;rw [List.length_take,List.length_nil] at this;omega)]
 congr 1
 rw [Zq (by simp;omega)]
 simp [Nat.add_comm]
theorem Zpg {k:Int} (h:1≤k) (h2:k≤1000000):2≤IntKind.wrap .i64 (Int.tdiv 9223372036854775807 k):=by
 rw [Int.tdiv_eq_ediv_of_nonneg (by decide)]
 have h3:9223372036854≤(9223372036854775807:Int) / k:=(Int.le_ediv_iff_mul_le (by omega)).2 (by omega)
 have h4:(9223372036854775807:Int) / k≤9223372036854775807:=Int.ediv_le_self _ (by decide)
 rw [ZH (by omega)]
 omega
theorem Zqu (b:Nat):FnG Tryz.prog 186 1 [.is (.pointer (some ⟨b,0,none⟩))] [bZ (.pointer (some ⟨b,0,none⟩)) (.pointer none)] (.any) (fun _=>[bZ (.pointer (some ⟨b,0,none⟩)) (.pointer (some ⟨b,0,none⟩))]):=by
 refine FnG.mk Tryz.func186 rfl Tryz.ntmps186 rfl (by kernel_rfl) ?_
 intro B F0 a w F hB hG hS
 obtain ⟨F,hS⟩:=hS.peel 1 2 rfl rfl
 obtain ⟨F,hS⟩:=hS.peel 1 3 rfl rfl
 obtain ⟨F,hS⟩:=hS.nm [0] [3,2,0] rfl rfl
 refine wp_seq ?_
 refine Za hS (qM rfl rfl (qf (Zv 2 .is (by rfl)) r1 r1 (qf (oF 0 2 .adr) r1 r1 (qa 2 r1 r1 (qf (ZdU _ Tryz.underlying155 rfl .t) r1 qz qZ))))) hB [6,0] [3,2,0] rfl rfl fun a w F hS=>Zb ?_
 refine Zd hS rfl (fun hc0=>?_) (fun hc0=>?_)
 ·skip
  refine Za hS (qM rfl rfl (qM rfl rfl (qf (ZdT 2 Tryz.underlying155 Tryz.underlying220 (by kernel_rfl) (by kernel_rfl) .t) r1 r1 (qf (Zgo Tryz.func213 (by kernel_rfl) (by kernel_rfl) (by kernel_rfl) (by kernel_rfl) .t) r1 qz (qf (Ze3 2 Tryz.underlying220 Tryz.underlying155 (by kernel_rfl) (by kernel_rfl) .t) r1 r1 (qf (Zv 2 .is (by rfl)) r1 r1 (qf (oF 0 2 .adr) r1 r1 (qf (Zaf 2 .adr .t Zj6 (by kernel_rfl) (by kernel_rfl)) r2 r1 qZ)))))))) hB [] [3,2,0] rfl rfl fun a w F hS=>?_
  have hS:=hS.fresh 1 rfl
  obtain ⟨F,hS⟩:=hS.push 1 3 rfl rfl rfl (by kernel_rfl)
  obtain ⟨F,hS⟩:=hS.push 1 2 rfl rfl rfl (by kernel_rfl)
  have hS:=hS.turn 1 rfl (r':=RS.hp (bZ (.pointer (some ⟨b,0,none⟩)) (.pointer (some ⟨b,0,none⟩)))) (fun _ _ _ _ h=>h)
  refine Zb6 hG hS rfl .nil Zbd.any rfl
 simp at hc0
theorem Zqf (b:Nat) (l:List UInt8):FnG Tryz.prog 186 1 [.is (.pointer (some ⟨b,0,none⟩))] [bW (.pointer (some ⟨b,0,none⟩)) l] (.any) (fun _=>[bW (.pointer (some ⟨b,0,none⟩)) l]):=by
 refine FnG.mk Tryz.func186 rfl Tryz.ntmps186 rfl (by kernel_rfl) ?_
 intro B F0 a w F hB hG hS
 obtain ⟨rv,hS⟩:=hS.open_ex 1 rfl
 obtain ⟨F,hS⟩:=hS.peel 1 2 rfl rfl
 obtain ⟨F,hS⟩:=hS.peel 1 3 rfl rfl
 obtain ⟨F,hS⟩:=hS.nm [0] [3,2,0] rfl rfl
 refine wp_seq ?_
 refine Za hS (qM rfl rfl (qf (Zv 2 .is (by rfl)) r1 r1 (qf (oF 0 2 .adr) r1 r1 (qa 2 r1 r1 (qf (ZdU _ Tryz.underlying155 rfl .t) r1 qz qZ))))) hB [6,0] [3,2,0] rfl rfl fun a w F hS=>Zb ?_
 refine Zd hS rfl (fun hc0=>?_) (fun hc0=>?_)
 ·skip
  simp at hc0
 refine wp_seq ?_
 refine Za hS (qM rfl rfl (qf (Zv 2 .is (by rfl)) r1 r1 (qf (oF 0 2 .adr) r1 r1 (qa 2 r1 r1 (qM rfl rfl (qf (Zgs Tryz.underlying155 (by kernel_rfl) .t .t) r2 qz qZ)))))) hB [19] [3,2,0] rfl rfl fun a w F hS=>Zb ?_
 refine Zd hS rfl (fun hc1=>?_) (fun hc1=>?_)
 ·skip
  simp at hc1
 refine wp_skip ?_
 have hS:=hS.fresh 1 rfl
 obtain ⟨F,hS⟩:=hS.push 1 3 rfl rfl rfl (by kernel_rfl)
 obtain ⟨F,hS⟩:=hS.push 1 2 rfl rfl rfl (by kernel_rfl)
 have hS:=hS.turn 1 rfl (r':=RS.hp (bW (.pointer (some ⟨b,0,none⟩)) l)) (fun _ _ _ _ h=>⟨_,h⟩)
 refine Zb6 hG hS rfl .nil Zbd.any rfl
theorem writeW (b:Nat) (l x:List UInt8) (hl:l.length≤1000000000) (hx:x.length≤1000000000):FnG Tryz.prog 135 1 [.is (.pointer (some ⟨b,0,none⟩)),.bs x] [bW (.pointer (some ⟨b,0,none⟩)) l] (.any) (fun _=>[bW (.pointer (some ⟨b,0,none⟩)) (l++x)]):=by
 refine FnG.mk Tryz.func135 rfl Tryz.ntmps135 rfl (by kernel_rfl) ?_
 intro B F0 a w F hB hG hS
 refine wp_seq ?_
 refine Za hS (qI (qC qZ)) hB [5,4,1,0] [1,0] rfl rfl fun a w F hS=>Zb (wp_seq ?_)
 refine Za hS (qM rfl rfl (qf (o_callG1 1 (Zqf b l) Tryz.func186 rfl (by kernel_rfl) (Args.one .t)) r1 r1 qZ)) hB [5,4,1,0] [1,0] rfl rfl fun a w F hS=>?_
 obtain ⟨rv,hS⟩:=hS.open_ex 1 rfl
 obtain ⟨F,hS⟩:=hS.peel 1 2 rfl rfl
 obtain ⟨F,hS⟩:=hS.peel 1 3 rfl rfl
 obtain ⟨F,hS⟩:=hS.nm [5,4,1,0] [3,2,0] rfl rfl
 refine Zb (wp_seq ?_)
 refine Zc hS (qM rfl rfl (qM rfl rfl (qf (Zv 2 .is (by rfl)) r1 r1 (qf (oF 1 2 .adr) r1 r1 (qa 2 r1 r1 (qM rfl rfl (qf (Zem 3 Tryz.underlying156 Tryz.underlying9 (by kernel_rfl) .is .t (by omega)) ⟨rfl,rfl,trivial⟩ ⟨rfl,trivial⟩ (qf (Zv 2 .is (by rfl)) r1 r1 (qf (oF 1 2 .adr) r1 r1 (qf (ZaU 2 .adr (by kernel_rfl) (by kernel_rfl)) r2 r1 qZ)))))))))) hB [5,4,1] [3,2,0] (fun _=>rfl) (fun _=>rfl) fun τ a w F hS=>?_
 try dsimp only [RS.sub,SF.sub,CF.sub,csub,Anc.sub,List.map,Zg,xL,xM,Nat.reduceAdd,xD,xE,xT,xU,xC,xN,zCF,ldSF] at hS
 generalize τ 14=v14 at hS
 refine Zb (wp_seq ?_)
 refine Za hS (qM rfl rfl (qf (Zck Tryz.underlying9 .t) r1 qz (qN rfl rfl (qC qZ)))) hB [5,4] [3,2,0] rfl rfl fun a w F hS=>Zb (wp_ret ?_)
 have hS:=hS.fresh 1 rfl
 obtain ⟨F,hS⟩:=hS.push 1 3 rfl rfl rfl (by kernel_rfl)
 obtain ⟨F,hS⟩:=hS.push 1 2 rfl rfl rfl (by kernel_rfl)
 have hS:=hS.turn 1 rfl (r':=RS.hp (bW (.pointer (some ⟨b,0,none⟩)) (l++x))) (fun _ _ _ _ h=>⟨_,h⟩)
 refine Zb6 hG hS rfl (.tmp rfl (.tmp rfl .nil)) Zbd.any rfl
theorem ZoE (b:Nat) (l:List UInt8) (hne:l≠[]):FnG Tryz.prog 137 1 [.is (.pointer (some ⟨b,0,none⟩))] [bW (.pointer (some ⟨b,0,none⟩)) l] (.bs l) (fun _=>[HP.star []]):=by
 refine FnG.mk Tryz.func137 rfl Tryz.ntmps137 rfl (by kernel_rfl) ?_
 intro B F0 a w F hB hG hS
 obtain ⟨rv,hS⟩:=hS.open_ex 1 rfl
 obtain ⟨F,hS⟩:=hS.peel 1 2 rfl rfl
 obtain ⟨F,hS⟩:=hS.peel 1 3 rfl rfl
 obtain ⟨F,hS⟩:=hS.nm [0] [3,2,0] rfl rfl
 refine wp_seq ?_
 refine Za hS (qf (oN (.cs (by kernel_rfl))) trivial qz qZ) hB [2,0] [3,2,0] rfl rfl fun a w F hS=>Zb (wp_seq ?_)
 refine Zu hS (qM rfl rfl (qf (Zv 2 .is (by rfl)) r1 r1 (qf (oF 1 2 .adr) r1 r1 (qa 2 r1 r1 (qf (ZfP 3 hne .is (by rfl)) r1 r1 (qM rfl rfl (qf (Zv 2 .is (by rfl)) r1 r1 (qf (oF 1 2 .adr) r1 r1 (qa 2 r1 r1 (qf (Z6 3 Tryz.underlying156 .is) r1 r1 (qf (Zc7 3 Tryz.underlying201 (by kernel_rfl) hne .t) r2 r1 (qN rfl rfl qZ)))))))))))) hB [2] [3,2,0] rfl rfl fun a w F hS=>?_
 try dsimp only [List.map,xD,xE,xT,xU,ldSF] at hS
 refine Zb (wp_ret ?_)
 have hS:=hS.fresh 1 rfl
 refine Zb6 (h':=HP.star []) hG hS rfl (.tmp rfl .nil) (.one .refl) rfl
theorem Zqn (b:Nat) (n:Int) (h0:1≤n) (h1:n≤1000000000):FnG Tryz.prog 214 1 [.is (.pointer (some ⟨b,0,none⟩)),.int .i64 n] [bZ (.pointer (some ⟨b,0,none⟩)) (.pointer (some ⟨b,0,none⟩))] (.any) (fun _=>[bW (.pointer (some ⟨b,0,none⟩)) []]):=by
 refine FnG.mk Tryz.func214 rfl Tryz.ntmps214 rfl (by kernel_rfl) ?_
 intro B F0 a w F hB hG hS
 have hw:IntKind.wrap .i64 (IntKind.wrap .i64 (2*0)+n)=n:=by rw [show IntKind.wrap .i64 (2*0)=0 from rfl,Int.zero_add];exact ZH (by omega)
 obtain ⟨F,hS⟩:=hS.peel 1 2 rfl rfl
 obtain ⟨F,hS⟩:=hS.peel 1 3 rfl rfl
 obtain ⟨F,hS⟩:=hS.nm [1,0] [3,2,0] rfl rfl
 refine wp_seq ?_
 refine ZeV hS (qM rfl rfl (qf (Zv 2 .is (by rfl)) r1 r1 (qf (oF 1 2 .adr) r1 r1 (qa 2 r1 r1 (qf (Zh4 Tryz.underlying156 .t) r1 qz (qf (ZpP qi .t) r1 qz (qM rfl rfl (qf (ZbX .t .t) r2 qz (qf (ZhO 101 Tryz.func223 (by kernel_rfl) (by kernel_rfl) (by kernel_rfl) rfl Tryz.underlying156 .t (by rw [hw];omega) (by rw [hw];omega)) r1 qz (qM rfl rfl (qf (Zv 2 .is (by rfl)) r1 r1 (qf (oF 1 2 .adr) r1 r1 (qa 2 r1 r1 (qf (Z6 3 Tryz.underlying156 .is) r1 r1 (qf (ZcB (sz:=1) 101 (.mk Tryz.underlying156 (by kernel_rfl)) (by intro x;rfl) .same .t (by decide) (by simp;omega)) r2 r1 (qN rfl rfl qZ)))))))))))))))) hB [4,0] [101,3,2,0] (fun _=>rfl) (fun _=>rfl) fun τ a w F hS=>?_
 try dsimp only [RS.sub,SF.sub,CF.sub,csub,Anc.sub,List.map,xD,xE,xT,xU,ldSF] at hS
 generalize τ 19=v19 at hS
 replace hS:=hS.turn 101 rfl (r':=RS.ob (.val v19) (Zy 5 1 rC [])) (fun τ w f y h=>Zn4 (R:=Zqt) τ w f y (by simpa using h))
 refine Zb (wp_seq ?_)
 refine Za hS (qM rfl rfl (qM rfl rfl (qf (Zv 2 .is (by rfl)) r1 r1 (qf (oF 1 2 .adr) r1 r1 (qa 2 r1 r1 (qf (Zpf 101 Tryz.underlying156 (by kernel_rfl) .is .t) r2 r1 qZ)))))) hB [4,0] [101,3,2,0] rfl rfl fun a w F hS=>Zb ?_
 refine Za hS (qM rfl rfl (qM rfl rfl (qf (Zv 2 .is (by rfl)) r1 r1 (qf (oF 1 2 .adr) r1 r1 (qf (Zaf 2 .adr .t Zj6 (by kernel_rfl) (by kernel_rfl)) r2 r1 qZ))))) hB [] [101,3,2,0] rfl rfl fun a w F hS=>?_
 have hS:=hS.fresh 1 rfl
 obtain ⟨F,hS⟩:=hS.push 1 101 rfl rfl rfl (by kernel_rfl)
 obtain ⟨F,hS⟩:=hS.push 1 2 rfl rfl rfl (by kernel_rfl)
 have hS:=hS.turn 1 rfl (r':=RS.hp (bW (.pointer (some ⟨b,0,none⟩)) [])) (fun _ _ _ _ h=>⟨_,h⟩)
 refine Zb6 hG hS rfl .nil Zbd.any rfl
theorem Zqq (b:Nat) (n:Int) (h0:1≤n) (h1:n≤1000000000):FnG Tryz.prog 187 1 [.is (.pointer (some ⟨b,0,none⟩)),.int .i64 n] [bZ (.pointer (some ⟨b,0,none⟩)) (.pointer none)] (.any) (fun _=>[bW (.pointer (some ⟨b,0,none⟩)) []]):=by
 refine FnG.mk Tryz.func187 rfl Tryz.ntmps187 rfl (by kernel_rfl) ?_
 intro B F0 a w F hB hG hS
 refine wp_seq ?_
 refine Za hS (qM rfl rfl (qf (o_callG1 1 (Zqu b) Tryz.func186 rfl (by kernel_rfl) (Args.one .t)) r1 r1 qZ)) hB [1,0] [1,0] rfl rfl fun a w F hS=>?_
 obtain ⟨F,hS⟩:=hS.peel 1 2 rfl rfl
 obtain ⟨F,hS⟩:=hS.peel 1 3 rfl rfl
 obtain ⟨F,hS⟩:=hS.nm [1,0] [3,2,0] rfl rfl
 refine Zb (wp_seq (wp_seq ?_))
 refine Za hS (qM rfl rfl (qf (Zbu .t qi) r1 qz qZ)) hB [7,1,0] [3,2,0] rfl rfl fun a w F hS=>Zb ?_
 refine Zd hS rfl (fun hc0=>?_) (fun hc0=>?_)
 ·skip
  simp at hc0;omega
 refine wp_skip (Zb (wp_seq ?_))
 refine Zu hS (qM rfl rfl (qf (Zv 2 .is (by rfl)) r1 r1 (qf (oF 1 2 .adr) r1 r1 (qa 2 r1 r1 (qf (Zh4 Tryz.underlying156 .t) r1 qz (qM rfl rfl (qf (Zv 2 .is (by rfl)) r1 r1 (qf (oF 1 2 .adr) r1 r1 (qa 2 r1 r1 (qf (Z6 3 Tryz.underlying156 .is) r1 r1 (qf (o_sub .t .t) r2 qz (qM rfl rfl (qL r2))))))))))))) hB [21,1,0] [3,2,0] rfl rfl fun a w F hS=>?_
 try dsimp only [List.map,xD,xE,xT,xU,ldSF] at hS
 refine Zb ?_
 refine Zd hS rfl (fun hc1=>?_) (fun hc1=>?_)
 ·skip
  replace hS:=hS.fresh 1 rfl
  obtain ⟨F,hS⟩:=hS.push 1 3 rfl rfl rfl (by kernel_rfl)
  obtain ⟨F,hS⟩:=hS.push 1 2 rfl rfl rfl (by kernel_rfl)
  replace hS:=hS.turn 1 rfl (r':=RS.hp (bZ (.pointer (some ⟨b,0,none⟩)) (.pointer (some ⟨b,0,none⟩)))) (fun _ _ _ _ h=>h)
  obtain ⟨F,hS⟩:=hS.nm [21,1,0] [1,0] rfl rfl
  refine Za hS (qM rfl rfl (qM rfl rfl (qf (o_callG1 1 (Zqn b n h0 h1) Tryz.func214 rfl (by kernel_rfl) (Args.two .t .t)) r2 r1 qZ))) hB [] [1,0] rfl rfl fun a w F hS=>Zb6 hG hS rfl .nil Zbd.any rfl
 have h9:¬ (0:Int)<n:=of_decide_eq_false hc1
 omega
theorem Zpu {l:List (List UInt8)} (h:2≤l.length):Zau l≠[]:=by
 match l,h with
 | x :: y :: r,_=>simp [Zau]
theorem ZkP {l:List (List UInt8)} (h:0<l.length):nth l 0=Zau (l.take (0+1)):=by
 match l,h with
 | x :: r,_=>simp [Zau,nth]
theorem ZoA (l:List (List UInt8)) (hn:l.length≤1000000) (hs:sumL l≤900000000):FnP Tryz.prog 141 [.sl rS l,.bs [32]] (.bs (Zau l)):=by
 refine FnP.mk Tryz.func141 rfl Tryz.ntmps141 rfl ?_
 intro B a w F hB hfr hS
 refine wp_seq ?_
 refine Za hS (qf (oN (.cs (by kernel_rfl))) trivial qz qZ) hB [4,1,0] [0] rfl rfl fun a w F hS=>Zb (wp_seq (wp_seq ?_))
 refine Za hS (qM rfl rfl (qu Tryz.underlying49 r1 qZ)) hB [12,4,1,0] [0] rfl rfl fun a w F hS=>Zb (wp_block (wp_seq ?_))
 refine Za hS (qf (o_eql .t qi) r1 qz (qN rfl rfl qZ)) hB [13,12,4,1,0] [0] rfl rfl fun a w F hS=>Zb ?_
 refine Zd hS rfl (fun hc0=>?_) (fun hc0=>?_)
 ·skip
  have hr:Zau l = []:=by
    have h9:l = []:=by simpa using hc0
    rw [h9];rfl
  refine wp_seq ?_
  refine Za hS (qf (oN (.cs (by kernel_rfl))) trivial qz qZ) hB [4,1,0] [0] rfl rfl fun a w F hS=>Zb (wp_ret (Zk (Zf ?_)))
  refine Zn hfr hS rfl rfl rfl (.bs (by first | exact hr.symm | rfl))
 have hl0:l≠[]:=by intro e;rw [e] at hc0;simp at hc0
 refine wp_seq ?_
 refine Za hS (qf (o_eql .t qi) r1 qz (qN rfl rfl qZ)) hB [15,4,1,0] [0] rfl rfl fun a w F hS=>Zb ?_
 refine Zd hS rfl (fun hc1=>?_) (fun hc1=>?_)
 ·skip
  have hl1:l.length=1:=by simp at hc1;omega
  have hr:Zau l=nth l 0:=by match l,hl1 with | [x],_=>rfl
  refine wp_seq ?_
  refine Za hS (qM rfl rfl (qf (ZX (sz:=1) (.mk Tryz.underlying49 (by kernel_rfl)) (by intro x;rfl) .t qi (by decide) (by simp;omega)) r1 qz (qf (oR false 1 .t) r1 qz (qN rfl rfl qZ)))) hB [4,1,0] [0] rfl rfl fun a w F hS=>Zb (wp_ret (Zk (Zf ?_)))
  refine Zn hfr hS rfl rfl rfl (.bs (by first | exact hr.symm | rfl))
 have hl2:2≤l.length:=by have:=List.length_pos_iff.2 hl0;simp at hc1;omega
 have hw1:IntKind.wrap .i64 ((l.length:Int) - 1)=((l.length - 1:Nat):Int):=by rw [ZH (by omega)];omega
 have hsz:IntKind.wrap .i64 (0+IntKind.wrap .i64 (1*((l.length - 1:Nat):Int)))=((l.length - 1+sumL (l.take 0):Nat):Int):=by rw [ZH (x:=1*_) (by omega),ZH (by omega)];simp [sumL]
 have hdl:(l.drop 1).length=l.length - 1:=by simp
 refine wp_skip (Zh (Zb (wp_seq ?_)))
 refine Za hS (qI qZ) hB [5,4,1,0] [0] rfl rfl fun a w F hS=>Zb (wp_seq (wp_seq ?_))
 refine Za hS (qM rfl rfl (qf (Zck Tryz.underlying9 .t) r1 qz (qf (Zal .t qi) r1 qz qZ))) hB [22,5,4,1,0] [0] rfl rfl fun a w F hS=>Zb ?_
 refine Zd hS rfl (fun hc2=>?_) (fun hc2=>?_)
 ·skip
  refine wp_seq (wp_seq ?_)
  refine Za hS (qM rfl rfl (qf (Zck Tryz.underlying9 .t) r1 qz (qM rfl rfl (qu Tryz.underlying49 r1 (qf (o_sub .t qi) r1 qz (qf (ZnP qi .t (by rw [hw1];omega)) r1 qz (qf (ZbF .t .t) r2 qz qZ))))))) hB [29,5,4,1,0] [0] rfl rfl fun a w F hS=>Zb ?_
  refine Zd hS rfl (fun hc3=>?_) (fun hc3=>?_)
  ·skip
   have h9:=of_decide_eq_true hc3
   rw [hw1] at h9
   have:=Zpg (k:=((l.length - 1:Nat):Int)) (by omega) (by omega)
   try simp only [List.length_cons,List.length_nil] at h9
   omega
  refine wp_skip (Zb ?_)
  refine Za hS (qM rfl rfl (qM rfl rfl (qf (Zck Tryz.underlying9 .t) r1 qz (qM rfl rfl (qu Tryz.underlying49 r1 (qf (o_sub .t qi) r1 qz (qf (ZpP .t .t) r2 qz (qf (ZbX .t .t) r2 qz (qN rfl rfl qZ))))))))) hB [5,4,1,0] [0] rfl rfl fun a w F hS=>?_
  rw [hw1] at hS
  refine Zb (wp_seq (wp_seq ?_))
  refine Za hS (qM rfl rfl (qu Tryz.underlying49 r1 (qJ qZ))) hB [41,40,39,5,4,1,0] [0] rfl rfl fun a w F hS=>Zb (wp_block ?_)
  replace hS:=hS.ent (i:=5) (s':=.pv (.int .i64 ((l.length - 1+sumL (l.take 0):Nat):Int))) rfl (.int hsz)
  obtain ⟨F,hS⟩:=hS.nm [41,40,39,5,1,0] [0] rfl rfl
  refine ZQ (σ:=Nat) (fun s=>(⟨[(0,.pv (.sl rS l)),(1,.pv (.bs [32])),(5,.pv (.int .i64 ((l.length - 1+sumL (l.take s):Nat):Int))),(39,.pv (.sl rS l)),(40,.pv (.int .i64 (l.length:Nat))),(41,.pv (.int .i64 (s:Nat)))],[(0,frame B)]⟩:En)) (fun s=>s≤l.length) (fun s=>l.length - s) 0 hS (Nat.zero_le _) ?_
  clear hS;intro i a w F hC hS
  try dsimp only at hC
  try dsimp only at hS
  have hi0:=hC
  have hsi:=ZkI l i
  refine wp_seq ?_
  refine Za hS (qL r2) hB [42,41,40,39,5,1,0] [0] rfl rfl fun a w F hS=>Zb (wp_seq ?_)
  refine Zd hS rfl (fun hc4=>?_) (fun hc4=>?_)
  ·skip
   have hi:i<l.length:=by simp at hc4;omega
   have hwl:=Zm0 hi
   have hst:=Zhb l i hi
   have hsi1:=ZkI l (i+1)
   refine wp_skip (Zb (wp_seq (wp_block (wp_seq ?_))))
   refine Za hS (qy 1 Tryz.underlying49 r2 (qf (oR false 1 .t) r1 qz (qN rfl rfl qZ))) hB [41,40,39,7,5,1,0] [0] rfl rfl fun a w F hS=>?_
   rw [Int.toNat_natCast] at hS
   refine Zb (wp_seq (wp_seq ?_))
   refine Za hS (qM rfl rfl (qf (Zck Tryz.underlying9 .t) r1 qz (qM rfl rfl (qf (o_sub qi .t) r1 qz (qf (Zal .t .t) r2 qz qZ))))) hB [49,41,40,39,7,5,1,0] [0] rfl rfl fun a w F hS=>Zb ?_
   refine Zd hS rfl (fun hc5=>?_) (fun hc5=>?_)
   ·skip
    have h9:=of_decide_eq_true hc5
    rw [ZH (by omega)] at h9
    omega
   refine wp_skip (Zb ?_)
   refine Za hS (qM rfl rfl (qM rfl rfl (qf (Zck Tryz.underlying9 .t) r1 qz (qf (ZbX .t .t) r2 qz (qN rfl rfl qZ))))) hB [41,40,39,5,1,0] [0] rfl rfl fun a w F hS=>Zh (Zb ?_)
   refine Za hS (qp r1 (qM rfl rfl qZ)) hB [41,40,39,5,1,0] [0] rfl rfl fun a w F hS=>Zb ?_
   replace hS:=hS.ent (i:=41) (s':=.pv (.int .i64 ((i+1:Nat):Int))) rfl (.int (Ze (by omega)))
   replace hS:=hS.ent (i:=5) (s':=.pv (.int .i64 ((l.length - 1+sumL (l.take (i+1)):Nat):Int))) rfl (.int (by rw [Zhb l i hi,ZH (by omega)];omega))
   obtain ⟨F,hS⟩:=hS.nm [41,40,39,5,1,0] [0] rfl rfl
   exact ⟨i+1,F,(by omega),hS,by omega⟩
  have hi:i=l.length:=by simp at hc4;omega
  refine wp_exit (Zi (Zi (Zo (Zb (wp_seq ?_)))))
  refine Zc hS (qf (oH [.pointer none,.slice none 0 0] 101) trivial qz qZ) hB [8,5,1,0] [101,0] (fun _=>rfl) (fun _=>rfl) fun τ a w F hS=>?_
  try dsimp only [RS.sub,SF.sub,CF.sub,csub,Anc.sub,List.map,zCF] at hS
  generalize τ 8=v8 at hS
  rw [hi,List.take_length] at hS
  obtain ⟨b,rfl⟩:=hS.shape 101 rfl
  replace hS:=hS.fresh 9 rfl
  replace hS:=hS.turn 9 rfl (Zav (T:=5) (sz:=1) (R:=rC))
  replace hS:=hS.fresh 10 rfl
  obtain ⟨F,hS⟩:=hS.push 10 9 rfl rfl rfl (by kernel_rfl)
  obtain ⟨F,hS⟩:=hS.push 10 101 rfl rfl rfl (by kernel_rfl)
  replace hS:=hS.turn 10 rfl (r':=RS.hp (bZ (.pointer (some ⟨b,0,none⟩)) (.pointer none))) (fun _ _ _ _ h=>h)
  obtain ⟨F,hS⟩:=hS.nm [8,5,1,0] [10,0] rfl rfl
  refine Zb (wp_seq ?_)
  refine Za hS (qM rfl rfl (qf (o_callG1 10 (Zqq b ((l.length - 1+sumL l:Nat):Int) (by omega) (by omega)) Tryz.func187 rfl (by kernel_rfl) (Args.two .t .t)) r2 r1 qZ)) hB [8,1,0] [10,0] rfl rfl fun a w F hS=>Zb (wp_seq ?_)
  refine Za hS (qM rfl rfl (qf (ZX (sz:=1) (.mk Tryz.underlying49 (by kernel_rfl)) (by intro x;rfl) .t qi (by decide) (by simp;omega)) r1 qz (qf (oR false 1 .t) r1 qz (qf (o_callG1 10 (writeW b [] (nth l 0) (by simp) (by have:=Zm0 (l:=l) (i:=0) (by omega);omega)) Tryz.func135 rfl (by kernel_rfl) (Args.two .t .t)) r2 r1 qZ)))) hB [8,1,0] [10,0] rfl rfl fun a w F hS=>?_
  replace hS:=hS.turn 10 rfl (r':=RS.hp (bW (.pointer (some ⟨b,0,none⟩)) (Zau (l.take (0+1))))) (fun _ _ _ _ h=>by rw [← ZkP (by omega)];exact h)
  refine Zb (wp_seq (wp_seq ?_))
  refine Za hS (qM rfl rfl (qf (Zce (sz:=1) (.mk Tryz.underlying49 (by kernel_rfl)) (by intro x;rfl) .t qi (by decide) (by omega)) r1 qz (qu Tryz.underlying49 r1 (qJ qZ)))) hB [65,64,63,8,1] [10,0] rfl rfl fun a w F hS=>Zb (wp_block ?_)
  obtain ⟨F,hS⟩:=hS.nm [65,64,63,8,1] [10,0] rfl rfl
  refine ZQ (σ:=Nat) (fun s=>(⟨[(1,.pv (.bs [32])),(8,.pv (.is (.pointer (some ⟨b,0,none⟩)))),(63,.pv (.sl rS (l.drop 1))),(64,.pv (.int .i64 ((l.drop 1).length:Nat))),(65,.pv (.int .i64 (s:Nat)))],[(0,frame B),(10,RS.hp (bW (.pointer (some ⟨b,0,none⟩)) (Zau (l.take (s+1)))))]⟩:En)) (fun s=>s≤(l.drop 1).length) (fun s=>(l.drop 1).length - s) 0 hS (Nat.zero_le _) ?_
  clear hS;intro i a w F hC hS
  try dsimp only at hC
  try dsimp only at hS
  have hi0:=hC
  have hjl:=Zkr (l.take (i+1))
  have hsi:=ZkI l (i+1)
  have htl:=List.length_take_le (i+1) l
  refine wp_seq ?_
  refine Za hS (qL r2) hB [66,65,64,63,8,1] [10,0] rfl rfl fun a w F hS=>Zb (wp_seq ?_)
  refine Zd hS rfl (fun hc6=>?_) (fun hc6=>?_)
  ·skip
   have hi1:i+1<l.length:=by simp at hc6;omega
   have hwl:(nth (l.drop 1) i).length≤sumL l:=by rw [show nth (l.drop 1) i=nth l (i+1) by rw [Zq (by omega),Zq hi1];simp [Nat.add_comm]];exact Zm0 hi1
   refine wp_skip (Zb (wp_seq (wp_block (wp_seq ?_))))
   refine Za hS (qy 1 Tryz.underlying49 r2 (qf (oR false 1 .t) r1 qz (qN rfl rfl qZ))) hB [65,64,63,10,8,1] [10,0] rfl rfl fun a w F hS=>?_
   rw [Int.toNat_natCast] at hS
   refine Zb (wp_seq ?_)
   refine Za hS (qM rfl rfl (qf (o_callG1 10 (writeW b (Zau (l.take (i+1))) [32] (by omega) (by simp)) Tryz.func135 rfl (by kernel_rfl) (Args.two .t .t)) r2 r1 qZ)) hB [65,64,63,10,8,1] [10,0] rfl rfl fun a w F hS=>Zb ?_
   refine Za hS (qM rfl rfl (qf (o_callG1 10 (writeW b (Zau (l.take (i+1)) ++ [32]) (nth (l.drop 1) i) (by rw [List.length_append];simp;omega) (by omega)) Tryz.func135 rfl (by kernel_rfl) (Args.two .t .t)) r2 r1 qZ)) hB [65,64,63,8,1] [10,0] rfl rfl fun a w F hS=>Zh (Zb ?_)
   refine Za hS (qp r1 (qM rfl rfl qZ)) hB [65,64,63,8,1] [10,0] rfl rfl fun a w F hS=>Zb ?_
   rw [← Zlx hi1] at hS
   replace hS:=hS.ent (i:=65) (s':=.pv (.int .i64 ((i+1:Nat):Int))) rfl (.int (Ze (by omega)))
   obtain ⟨F,hS⟩:=hS.nm [65,64,63,8,1] [10,0] rfl rfl
   exact ⟨i+1,F,(by omega),hS,by omega⟩
  have hi2:i+1=l.length:=by simp at hc6;omega
  have hfin:Zau (l.take (i+1))=Zau l:=by rw [hi2,List.take_length]
  have hjne:Zau l≠[]:=Zpu hl2
  rw [hfin] at hS
  refine wp_exit (Zi (Zi (Zo (Zb (wp_seq ?_)))))
  refine Za hS (qf (o_callG1 10 (ZoE b (Zau l) hjne) Tryz.func137 rfl (by kernel_rfl) (Args.one .t)) r1 r1 (qN rfl rfl qZ)) hB [4] [10,0] rfl rfl fun a w F hS=>Zb (wp_ret ?_)
  refine Zn hfr hS rfl rfl rfl (.bs (by first | exact hr.symm | rfl))
 simp at hc2
theorem Zet (l:List (List UInt8)) (hn:l.length≤1000000) (hs:sumL l≤900000000):FnP Tryz.prog 72 [.sl rS l] (.bs (Zau l)):=by
 refine FnP.mk Tryz.func72 rfl Tryz.ntmps72 rfl ?_
 intro B a w F hB hfr hS
 refine wp_seq ?_
 refine Za hS (qf (oN (.cs (by kernel_rfl))) trivial qz qZ) hB [2,0] [0] rfl rfl fun a w F hS=>Zb (wp_seq ?_)
 refine Za hS (qM rfl rfl (qf (oP (ZoA l hn hs) Tryz.func141 (Args.two .t (.cs (by kernel_rfl)))) r1 qz (qN rfl rfl qZ))) hB [2] [0] rfl rfl fun a w F hS=>Zb (wp_ret ?_)
 refine Zn hfr hS rfl rfl rfl .refl
theorem ZlA {l:List (List UInt8)} {i:Nat} (h:i<l.length):Zau (l.take (i+1))=(if 0<i then Zau (l.take i) ++ [32] else Zau (l.take i))++nth l i:=by
 match i,h with
 | 0,h=>rw [← ZkP h];simp [Zau]
 | i+1,h=>
   rw [if_pos (Nat.succ_pos i),List.take_succ_eq_append_getElem h,ZeY _ _ (by intro e;have:=congrArg List.length e;rw [List.length_take,List.length_nil] at this;omega),Zq h]
theorem Zpr {a b:List (List UInt8)} (h:a.length=b.length) (k:∀ j,j<a.length→nth a j=nth b j):a=b:=by
 refine List.ext_getElem h fun j h1 h2=>?_
 rw [← Zq h1,← Zq h2]
 exact k j h1
theorem Zon (x y:List (List UInt8)):FnP Tryz.prog 22 [.sl rS x,.sl rS y] (.bool (decide (x=y))):=by
 refine FnP.mk Tryz.func22 rfl Tryz.ntmps22 rfl ?_
 intro B a w F hB hfr hS
 have ha0:=Sat.lenSl hS (i:=0) rfl
 refine wp_seq ?_
 refine Za hS qB hB [4,1,0] [0] rfl rfl fun a w F hS=>Zb (wp_seq (wp_seq ?_))
 refine Za hS (qM rfl rfl (qu Tryz.underlying49 r1 (qM rfl rfl (qu Tryz.underlying49 r1 (qf (o_neq .t .t) r2 qz qZ))))) hB [10,4,1,0] [0] rfl rfl fun a w F hS=>Zb ?_
 refine Zd hS rfl (fun hc0=>?_) (fun hc0=>?_)
 ·skip
  have hr:decide (x=y)=false:=by
    refine decide_eq_false fun e=>?_
    rw [e] at hc0
    simp at hc0
  refine wp_seq ?_
  refine Za hS qB hB [4,1,0] [0] rfl rfl fun a w F hS=>Zb (wp_ret (Zf ?_))
  refine Zn hfr hS rfl rfl rfl (.bool (by rw [hr]))
 have hl:x.length=y.length:=by simp at hc0;omega
 refine wp_skip (Zb (wp_seq (wp_seq ?_)))
 refine Za hS (qM rfl rfl (qu Tryz.underlying49 r1 (qJ qZ))) hB [13,12,4,1,0] [0] rfl rfl fun a w F hS=>Zb (wp_block ?_)
 obtain ⟨F,hS⟩:=hS.nm [13,12,1,0] [0] rfl rfl
 refine ZQ (σ:=Nat) (fun s=>(⟨[(0,.pv (.sl rS x)),(1,.pv (.sl rS y)),(12,.pv (.int .i64 (x.length:Nat))),(13,.pv (.int .i64 (s:Nat)))],[(0,frame B)]⟩:En)) (fun s=>s≤x.length ∧ ∀ j,j<s→nth x j=nth y j) (fun s=>x.length - s) 0 hS ⟨Nat.zero_le _,fun j hj=>absurd hj (Nat.not_lt_zero _)⟩ ?_
 clear hS;intro i a w F hC hS
 try dsimp only at hC
 try dsimp only at hS
 obtain ⟨hi0,hsm⟩:=hC
 refine wp_seq ?_
 refine Za hS (qL r2) hB [14,13,12,1,0] [0] rfl rfl fun a w F hS=>Zb (wp_seq ?_)
 refine Zd hS rfl (fun hc1=>?_) (fun hc1=>?_)
 ·skip
  have hi:i<x.length:=by simp at hc1;omega
  refine wp_skip (Zb (wp_seq (wp_block (wp_seq ?_))))
  refine Za hS (qM rfl rfl (qN rfl rfl qZ)) hB [13,12,5,1,0] [0] rfl rfl fun a w F hS=>Zb (wp_seq ?_)
  refine Zu hS (qM rfl rfl (qM rfl rfl (qy 1 Tryz.underlying49 r2 (qf (oR false 1 .t) r1 qz (qM rfl rfl (qM rfl rfl (qy 1 Tryz.underlying49 r2 (qf (oR false 1 .t) r1 qz (qf (ZkD Tryz.underlying9 .t .t) r2 qz qZ))))))))) hB [24,13,12,1,0] [0] rfl rfl fun a w F hS=>?_
  try dsimp only [List.map,xD,xE,xT,xU,ldSF] at hS
  rw [Int.toNat_natCast] at hS
  refine Zb ?_
  refine Zd hS rfl (fun hc2=>?_) (fun hc2=>?_)
  ·skip
   have hr:decide (x=y)=false:=by
     refine decide_eq_false fun e=>?_
     rw [e] at hc2
     simp at hc2
   refine wp_seq ?_
   refine Za hS qB hB [13,12,4,1,0] [0] rfl rfl fun a w F hS=>Zb (wp_ret (Zk (Zf (Zf (Zk (Zf ?_))))))
   refine Zn hfr hS rfl rfl rfl (.bool (by rw [hr]))
  have hie:nth x i=nth y i:=by simpa using hc2
  refine wp_skip (Zh (Zb ?_))
  refine Za hS (qp r1 (qM rfl rfl qZ)) hB [13,12,1,0] [0] rfl rfl fun a w F hS=>Zb ?_
  replace hS:=hS.ent (i:=13) (s':=.pv (.int .i64 ((i+1:Nat):Int))) rfl (.int (Ze (by omega)))
  obtain ⟨F,hS⟩:=hS.nm [13,12,1,0] [0] rfl rfl
  exact ⟨i+1,F,⟨by omega,fun j hj=>(Nat.lt_or_ge j i).elim (hsm j) (fun h1=>(show i=j by omega) ▸ hie)⟩,hS,by omega⟩
 have hr:decide (x=y)=true:=decide_eq_true (Zpr hl (fun j hj=>hsm j (by simp at hc1;omega)))
 refine wp_exit (Zi (Zi (Zo (Zb (wp_seq ?_)))))
 refine Za hS qB hB [4] [0] rfl rfl fun a w F hS=>Zb (wp_ret ?_)
 refine Zn hfr hS rfl rfl rfl (.bool (by rw [hr]))
def RdB (n:Int) (v:Nat):Prop:=0≤n∧n≤21474836479∧(v≤2147483647→n=v)∧(2147483647<v→2147483647<n)
theorem RdB.range {n:Int} {v:Nat} (h:RdB n v):0≤n∧n≤21474836479:=⟨h.1,h.2.1⟩
theorem RdB.next {n:Int} {v c:Nat} (h:RdB n v) (hn:n≤2147483647) (hc:48≤c∧c≤57):RdB (10*n+c - 48) (v*10+(c - 48)):=by
 obtain ⟨h1,h2,h3,h4⟩:=h
 have hv:v≤2147483647:=by
   rcases Nat.lt_or_ge 2147483647 v with hh | hh
   · have:=h4 hh;omega
   · exact hh
 have:=h3 hv
 refine ⟨by omega,by omega,fun _=>by omega,fun _=>by omega⟩
theorem RdB.val {n:Int} {v:Nat} (h:RdB n v) (hn:n≤2147483647):n=v:=by
 rcases Nat.lt_or_ge 2147483647 v with hh | hh
 · have:=h.2.2.2 hh;omega
 · exact h.2.2.1 hh
def Z0 (o:OpD):Bool:=if o.read=true then Zbp ⟨o.tx,o.key,o.nth⟩ else (idB o.key && decide (o.tx=0)) && decide (o.nth=0)
def ofO (o:OpD):ZbP:=if o.read=true then ⟨o.tx,o.key,o.nth⟩ else noV
def Zay (o:OpD):List UInt8:=if Z0 o=false then [] else if o.read=false then 119 :: textL o.key else if o.tx=0 then (114 :: textL o.key) ++ [64,48] else (((114 :: textL o.key) ++ [64] ++ textL o.tx) ++ [46])++textL o.nth
theorem three {l:List Int} (h:l.length=3):∃ x0 x1 x2,l = [x0,x1,x2]:=by
 match l,h with
 | [x0,x1,x2],_=>exact ⟨x0,x1,x2,rfl⟩
section
variable {b:UInt8} {r e e2:List UInt8}
end
def ZbE (o:OpD):Int:=if Z0 o=true then 0 else 1
theorem ZdW {o:OpD} (h:Z0 o=true):(1≤o.key∧o.key≤1048575)∧(0≤o.tx∧o.tx≤1048575)∧(0≤o.nth∧o.nth≤4095):=by
 unfold Z0 at h
 split at h
 · unfold Zbp at h
   dsimp only at h
   split at h <;> simp only [Bool.and_eq_true,decide_eq_true_eq,ZfR] at h <;> omega
 · simp only [Bool.and_eq_true,decide_eq_true_eq,ZfR] at h
   omega
theorem Zd5 {o:OpD} (h:o.read=true):Z0 o=Zbp (ofO o):=by unfold Z0 ofO;rw [if_pos h,if_pos h]
theorem Zdn {o:OpD} (h:o.read=false):Z0 o=((idB o.key && decide (o.tx=0)) && decide (o.nth=0)):=by unfold Z0;rw [if_neg (by rw [h];decide)]
theorem Zk0 (v:ZbP):(Zoq v).2=if Zbp v=true then 0 else 1:=by unfold Zoq;split <;> rfl
theorem Zoh (o:OpD):FnP Tryz.prog 159 [.agg (rOp o)] (.agg (ZC (ofO o))):=by
 refine FnP.mk Tryz.func159 rfl Tryz.ntmps159 rfl ?_
 intro B a w F hB hfr hS
 refine wp_seq ?_
 refine Zc hS (qx 101 r1 (qf (oH [.int .i64 0,.int .i64 0,.int .i64 0] 102) trivial qz qZ)) hB [2,1] [102,101,0] (fun _=>rfl) (fun _=>rfl) fun τ a w F hS=>?_
 try dsimp only [RS.sub,SF.sub,CF.sub,csub,Anc.sub,List.map,zCF] at hS
 generalize τ 1=v1 at hS
 generalize τ 2=v2 at hS
 refine Zb (wp_seq (wp_seq ?_))
 refine Za hS (qg 0 101 r1 r1 (qa 101 r1 r1 (qf (o_not .t) r1 qz qZ))) hB [5,2,1] [102,101,0] rfl rfl fun a w F hS=>Zb ?_
 refine Zd hS rfl (fun hc0=>?_) (fun hc0=>?_)
 ·skip
  have hr:o.read=false:=by simpa using hc0
  refine wp_seq ?_
  refine Za hS (qf (oB [] [.int .i64 0,.int .i64 0,.int .i64 0] [(0,1),(1,1),(2,1)] .nil) trivial qz (qs 3 102 r2 r1 qZ)) hB [2,1] [102,101,0] rfl rfl fun a w F hS=>Zb (wp_ret (Zf ?_))
  refine Zr hfr hS rfl (.cl 102 true 3 rfl rfl .nil) (.one (.aggU rfl (by unfold ofO;rw [hr];rfl)))
 have hr:o.read=true:=by simpa using hc0
 refine wp_skip (Zb (wp_seq ?_))
 refine Za hS (qg 2 101 r1 r1 (qa 101 r1 r1 (qg 1 101 r1 r1 (qa 101 r1 r1 (qg 3 101 r1 r1 (qa 101 r1 r1 (qf (oB [(0,.tmp 8),(1,.tmp 10),(2,.tmp 12)] [.int .i64 0,.int .i64 0,.int .i64 0] [(0,1),(1,1),(2,1)] (.one rfl .t one_int (by kernel_rfl) (.one rfl .t one_int (by kernel_rfl) (.one rfl .t one_int (by kernel_rfl) .nil)))) r3 qz (qs 3 102 r2 r1 qZ)))))))) hB [2] [102,101,0] rfl rfl fun a w F hS=>Zb (wp_ret ?_)
 refine Zr hfr hS rfl (.cl 102 true 3 rfl rfl .nil) (.one (.aggU rfl (by unfold ofO;rw [hr];rfl)))
theorem ZlM (o:OpD):FnP Tryz.prog 190 [.agg (rOp o)] (.agg (ZC (ofO o))):=by
 refine FnP.mk Tryz.func190 rfl Tryz.ntmps190 rfl ?_
 intro B a w F hB hfr hS
 refine wp_seq ?_
 refine Zc hS (qx 101 r1 (qf (oH [.int .i64 0,.int .i64 0,.int .i64 0] 102) trivial qz qZ)) hB [2,1] [102,101,0] (fun _=>rfl) (fun _=>rfl) fun τ a w F hS=>?_
 try dsimp only [RS.sub,SF.sub,CF.sub,csub,Anc.sub,List.map,zCF] at hS
 generalize τ 1=v1 at hS
 generalize τ 2=v2 at hS
 refine Zb (wp_seq (wp_seq ?_))
 refine Za hS (qg 0 101 r1 r1 (qa 101 r1 r1 (qf (o_not .t) r1 qz qZ))) hB [5,2,1] [102,101,0] rfl rfl fun a w F hS=>Zb ?_
 refine Zd hS rfl (fun hc0=>?_) (fun hc0=>?_)
 ·skip
  have hr:o.read=false:=by simpa using hc0
  refine wp_seq ?_
  refine Za hS (qf (oB [] [.int .i64 0,.int .i64 0,.int .i64 0] [(0,1),(1,1),(2,1)] .nil) trivial qz (qs 3 102 r2 r1 qZ)) hB [2,1] [102,101,0] rfl rfl fun a w F hS=>Zb (wp_ret (Zf ?_))
  refine Zr hfr hS rfl (.cl 102 true 3 rfl rfl .nil) (.one (.aggU rfl (by unfold ofO;rw [hr];rfl)))
 have hr:o.read=true:=by simpa using hc0
 refine wp_skip (Zb (wp_seq ?_))
 refine Za hS (qg 2 101 r1 r1 (qa 101 r1 r1 (qg 1 101 r1 r1 (qa 101 r1 r1 (qg 3 101 r1 r1 (qa 101 r1 r1 (qf (oB [(0,.tmp 8),(1,.tmp 10),(2,.tmp 12)] [.int .i64 0,.int .i64 0,.int .i64 0] [(0,1),(1,1),(2,1)] (.one rfl .t one_int (by kernel_rfl) (.one rfl .t one_int (by kernel_rfl) (.one rfl .t one_int (by kernel_rfl) .nil)))) r3 qz (qs 3 102 r2 r1 qZ)))))))) hB [2] [102,101,0] rfl rfl fun a w F hS=>Zb (wp_ret ?_)
 refine Zr hfr hS rfl (.cl 102 true 3 rfl rfl .nil) (.one (.aggU rfl (by unfold ofO;rw [hr];rfl)))
theorem ZfJ (o:OpD):FnP Tryz.prog 97 [.agg (rOp o)] (.int .i64 (ZbE o)):=by
 refine FnP.mk Tryz.func97 rfl Tryz.ntmps97 rfl ?_
 intro B a w F hB hfr hS
 refine wp_seq ?_
 refine Zc hS (qx 101 r1 (qI qZ)) hB [2,1] [101,0] (fun _=>rfl) (fun _=>rfl) fun τ a w F hS=>?_
 try dsimp only [RS.sub,SF.sub,CF.sub,csub,Anc.sub,List.map,zCF] at hS
 generalize τ 1=v1 at hS
 refine Zb (wp_seq (wp_seq ?_))
 refine Za hS (qg 0 101 r1 r1 (qa 101 r1 r1 qZ)) hB [6,2,1] [101,0] rfl rfl fun a w F hS=>Zb ?_
 refine Zd hS rfl (fun hc0=>?_) (fun hc0=>?_)
 ·skip
  have hg:(Zoq (ofO o)).2=ZbE o:=by rw [Zk0];unfold ZbE;rw [Zd5 hc0]
  refine wp_seq ?_
  refine Za hS (qe 4 101 r1 r1 (qf (oP (Zoh o) Tryz.func159 (Args.one (.pagg .t))) r1 qz (qf (oP (ZmP (ofO o)) Tryz.func158 (Args.one .t)) r1 qz (qM rfl rfl (qf (o_extract .t rfl) r1 qz (qf (o_extract .t rfl) r1 qz (qN rfl rfl (qN rfl rfl qZ)))))))) hB [4,2,1] [101,0] rfl rfl fun a w F hS=>Zb (wp_seq ?_)
  refine Za hS (qM rfl rfl (qN rfl rfl qZ)) hB [2,1] [101,0] rfl rfl fun a w F hS=>Zb (wp_ret (Zf ?_))
  refine Zn hfr hS rfl rfl rfl (.int hg)
 have hr:o.read=false:=hc0
 refine wp_skip (Zb (wp_seq (wp_seq ?_)))
 refine Za hS (qe 4 101 r1 r1 (qg 1 101 r1 r1 (qa 101 r1 r1 (qf (oB [(1,.tmp 16)] [.bool false,.int .i64 0,.int .i64 0,.int .i64 0] [(0,1),(1,1),(2,1),(3,1)] (.one rfl .t one_int (by kernel_rfl) .nil)) r1 qz (qf (Zl6 (ks:=[false,true,true,true]) (by kernel_rfl) .t .t (.bool (.int (.int (.int .nil))))) r2 qz (qM rfl rfl (qv 1 101 rfl r2 r1 (qw 101 rfl r2 r1 (qk rfl (fun h=>Zbu (.w h) qi) r2 qz (qf (Z4 .t .t) r2 qz (qM rfl rfl (qv 1 101 rfl r2 r1 (qw 101 rfl r2 r1 (qk rfl (fun h=>Zal (.w h) qi) r2 qz (qf (Z4 .t .t) r2 qz qZ))))))))))))))) hB [28,2] [101,0] rfl rfl fun a w F hS=>Zb ?_
 refine Zd hS rfl (fun hc1=>?_) (fun hc1=>?_)
 ·skip
  have hg:(1:Int)=ZbE o:=by
    unfold ZbE
    rw [if_neg]
    rw [Zdn hr]
    simp [hr,idB] at hc1 ⊢
    omega
  refine wp_seq ?_
  refine Za hS (qI qZ) hB [2] [101,0] rfl rfl fun a w F hS=>Zb (wp_ret (Zf ?_))
  refine Zn hfr hS rfl rfl rfl (.int hg)
 have hg:(0:Int)=ZbE o:=by
   unfold ZbE
   rw [if_pos]
   rw [Zdn hr]
   simp [hr,idB] at hc1 ⊢
   omega
 refine wp_skip (Zb (wp_seq ?_))
 refine Za hS (qI qZ) hB [2] [101,0] rfl rfl fun a w F hS=>Zb (wp_ret ?_)
 refine Zn hfr hS rfl rfl rfl (.int hg)
theorem ZcA (o:OpD):FnP Tryz.prog 147 [.agg (rOp o)] (.bool (Z0 o)):=by
 refine FnP.mk Tryz.func147 rfl Tryz.ntmps147 rfl ?_
 intro B a w F hB hfr hS
 refine wp_seq ?_
 refine Zc hS (qx 101 r1 qB) hB [2,1] [101,0] (fun _=>rfl) (fun _=>rfl) fun τ a w F hS=>?_
 try dsimp only [RS.sub,SF.sub,CF.sub,csub,Anc.sub,List.map,zCF] at hS
 generalize τ 1=v1 at hS
 refine Zb (wp_seq (wp_seq ?_))
 refine Za hS (qg 0 101 r1 r1 (qa 101 r1 r1 qZ)) hB [4,2,1] [101,0] rfl rfl fun a w F hS=>Zb ?_
 refine Zd hS rfl (fun hc0=>?_) (fun hc0=>?_)
 ·skip
  have hg:Zbp (ofO o)=Z0 o:=(Zd5 hc0).symm
  refine wp_seq ?_
  refine Za hS (qe 4 101 r1 r1 (qf (oP (ZlM o) Tryz.func190 (Args.one (.pagg .t))) r1 qz (qf (oP (Zn8 (ofO o)) Tryz.func189 (Args.one .t)) r1 qz (qN rfl rfl qZ)))) hB [2,1] [101,0] rfl rfl fun a w F hS=>Zb (wp_ret (Zf ?_))
  refine Zn hfr hS rfl rfl rfl (.bool hg)
 have hg:((idB o.key && decide (o.tx=0)) && decide (o.nth=0))=Z0 o:=(Zdn hc0).symm
 refine wp_skip (Zb (wp_seq ?_))
 refine Za hS (qg 1 101 r1 r1 (qa 101 r1 r1 (qf (oP (Zd4 o.key) Tryz.func146 (Args.one .t)) r1 qz (qM rfl rfl (qv 2 101 rfl r2 r1 (qw 101 rfl r2 r1 (qk rfl (fun h=>o_eql (.w h) qi) r2 qz (qf (ZA .t .t) r2 qz (qM rfl rfl (qv 3 101 rfl r2 r1 (qw 101 rfl r2 r1 (qk rfl (fun h=>o_eql (.w h) qi) r2 qz (qf (ZA .t .t) r2 qz (qN rfl rfl qZ)))))))))))))) hB [2] [101,0] rfl rfl fun a w F hS=>Zb (wp_ret ?_)
 refine Zn hfr hS rfl rfl rfl (.bool hg)
theorem ZjC (o:OpD):FnP Tryz.prog 136 [.agg (rOp o)] (.bs (Zay o)):=by
 refine FnP.mk Tryz.func136 rfl Tryz.ntmps136 rfl ?_
 intro B a w F hB hfr hS
 refine wp_seq ?_
 refine Zc hS (qx 101 r1 (qf (oN (.cs (by kernel_rfl))) trivial qz qZ)) hB [2,1] [101,0] (fun _=>rfl) (fun _=>rfl) fun τ a w F hS=>?_
 try dsimp only [RS.sub,SF.sub,CF.sub,csub,Anc.sub,List.map,zCF] at hS
 generalize τ 1=v1 at hS
 refine Zb (wp_seq (wp_block (wp_seq ?_)))
 refine Za hS (qe 4 101 r1 r1 (qf (oP (ZfJ o) Tryz.func97 (Args.one (.pagg .t))) r1 qz (qf (o_neq .t qi) r1 qz (qN rfl rfl qZ)))) hB [3,2,1] [101,0] rfl rfl fun a w F hS=>Zb ?_
 refine Zd hS rfl (fun hc0=>?_) (fun hc0=>?_)
 ·skip
  have hg:([]:List UInt8)=Zay o:=by unfold Zay;rw [if_pos];unfold ZbE at hc0;simpa using hc0
  refine wp_seq ?_
  refine Za hS (qf (oN (.cs (by kernel_rfl))) trivial qz qZ) hB [2,1] [101,0] rfl rfl fun a w F hS=>Zb (wp_ret (Zk (Zf ?_)))
  refine Zn hfr hS rfl rfl rfl (.bs hg)
 have hk:Z0 o=true:=by unfold ZbE at hc0;simpa using hc0
 have hb:=ZdW hk
 have l1:=ZN (n:=o.key) (by omega)
 have l2:=ZN (n:=o.tx) (by omega)
 have l3:=ZN (n:=o.nth) (by omega)
 refine wp_seq ?_
 refine Za hS (qg 0 101 r1 r1 (qa 101 r1 r1 (qf (o_not .t) r1 qz (qN rfl rfl qZ)))) hB [7,2,1] [101,0] rfl rfl fun a w F hS=>Zb ?_
 refine Zd hS rfl (fun hc1=>?_) (fun hc1=>?_)
 ·skip
  have hg:[119] ++ textL o.key=Zay o:=by unfold Zay;rw [if_neg (by rw [hk];decide)];rw [if_pos (by simpa using hc1)];rfl
  refine wp_seq ?_
  refine Za hS (qg 1 101 r1 r1 (qa 101 r1 r1 (qf (oP (Zc9 _) Tryz.func69 (Args.one .t)) r1 qz (qf (Zw (.cs (by kernel_rfl)) .t (by simp only [List.length_append,List.length_cons,List.length_nil];omega)) r1 qz (qN rfl rfl qZ))))) hB [2,1] [101,0] rfl rfl fun a w F hS=>Zb (wp_ret (Zk (Zf ?_)))
  refine Zn hfr hS rfl rfl rfl (.bs hg)
 have hr:o.read=true:=by simpa using hc1
 refine wp_seq ?_
 refine Za hS (qg 2 101 r1 r1 (qa 101 r1 r1 (qf (o_eql .t qi) r1 qz (qN rfl rfl qZ)))) hB [15,2,1] [101,0] rfl rfl fun a w F hS=>Zb ?_
 refine Zd hS rfl (fun hc2=>?_) (fun hc2=>?_)
 ·skip
  have hg:([114] ++ textL o.key) ++ [64,48] = Zay o:=by unfold Zay;rw [if_neg (by rw [hk];decide)];rw [if_neg (by rw [hr];decide),if_pos (by simpa using hc2)];rfl
  refine wp_seq ?_
  refine Za hS (qg 1 101 r1 r1 (qa 101 r1 r1 (qf (oP (Zc9 _) Tryz.func69 (Args.one .t)) r1 qz (qf (Zw (.cs (by kernel_rfl)) .t (by simp only [List.length_append,List.length_cons,List.length_nil];omega)) r1 qz (qf (Zw .t (.cs (by kernel_rfl)) (by simp only [List.length_append,List.length_cons,List.length_nil];omega)) r1 qz (qN rfl rfl qZ)))))) hB [2,1] [101,0] rfl rfl fun a w F hS=>Zb (wp_ret (Zk (Zf ?_)))
  refine Zn hfr hS rfl rfl rfl (.bs hg)
 have hg:((((([114] ++ textL o.key) ++ [64])++textL o.tx) ++ [46])++textL o.nth)=Zay o:=by unfold Zay;rw [if_neg (by rw [hk];decide)];rw [if_neg (by rw [hr];decide),if_neg (by simpa using hc2)];rfl
 refine wp_skip (Zh (Zb (wp_seq ?_)))
 refine Zu hS (qg 1 101 r1 r1 (qa 101 r1 r1 (qf (oP (Zc9 _) Tryz.func69 (Args.one .t)) r1 qz (qf (Zw (.cs (by kernel_rfl)) .t (by simp only [List.length_append,List.length_cons,List.length_nil];omega)) r1 qz (qf (Zw .t (.cs (by kernel_rfl)) (by simp only [List.length_append,List.length_cons,List.length_nil];omega)) r1 qz (qg 2 101 r1 r1 (qa 101 r1 r1 (qf (oP (Zc9 _) Tryz.func69 (Args.one .t)) r1 qz (qf (Zw .t .t (by simp only [List.length_append,List.length_cons,List.length_nil];omega)) r2 qz (qf (Zw .t (.cs (by kernel_rfl)) (by simp only [List.length_append,List.length_cons,List.length_nil];omega)) r1 qz (qg 3 101 r1 r1 (qa 101 r1 r1 (qf (oP (Zc9 _) Tryz.func69 (Args.one .t)) r1 qz (qf (Zw .t .t (by simp only [List.length_append,List.length_cons,List.length_nil];omega)) r2 qz (qN rfl rfl qZ))))))))))))))) hB [2] [101,0] rfl rfl fun a w F hS=>?_
 try dsimp only [List.map,xD,xE,xT,xU,ldSF] at hS
 refine Zb (wp_ret ?_)
 refine Zn hfr hS rfl rfl rfl (.bs hg)
theorem ZhW:textL 0 = [48]:=by decide +kernel
theorem ZfX (o:OpD):FnP Tryz.prog 171 [.agg (rOp o)] (.bs (Zay o)):=by
 refine FnP.mk Tryz.func171 rfl Tryz.ntmps171 rfl ?_
 intro B a w F hB hfr hS
 refine wp_seq ?_
 refine Zc hS (qx 101 r1 (qf (oN (.cs (by kernel_rfl))) trivial qz qZ)) hB [2,1] [101,0] (fun _=>rfl) (fun _=>rfl) fun τ a w F hS=>?_
 try dsimp only [RS.sub,SF.sub,CF.sub,csub,Anc.sub,List.map,zCF] at hS
 generalize τ 1=v1 at hS
 refine Zb (wp_seq (wp_seq ?_))
 refine Za hS (qe 4 101 r1 r1 (qf (oP (ZcA o) Tryz.func147 (Args.one (.pagg .t))) r1 qz (qf (o_not .t) r1 qz qZ))) hB [6,2,1] [101,0] rfl rfl fun a w F hS=>Zb ?_
 refine Zd hS rfl (fun hc0=>?_) (fun hc0=>?_)
 ·skip
  have hg:([]:List UInt8)=Zay o:=by unfold Zay;rw [if_pos];simpa using hc0
  refine wp_seq ?_
  refine Za hS (qf (oN (.cs (by kernel_rfl))) trivial qz qZ) hB [2,1] [101,0] rfl rfl fun a w F hS=>Zb (wp_ret (Zf ?_))
  refine Zn hfr hS rfl rfl rfl (.bs hg)
 have hk:Z0 o=true:=by simpa using hc0
 have hb:=ZdW hk
 have l1:=ZN (n:=o.key) (by omega)
 have l2:=ZN (n:=o.tx) (by omega)
 have l3:=ZN (n:=o.nth) (by omega)
 refine wp_skip (Zb (wp_seq (wp_seq ?_)))
 refine Za hS (qg 0 101 r1 r1 (qa 101 r1 r1 (qf (o_not .t) r1 qz qZ))) hB [9,2,1] [101,0] rfl rfl fun a w F hS=>Zb ?_
 refine Zd hS rfl (fun hc1=>?_) (fun hc1=>?_)
 ·skip
  have hg:[119] ++ textL o.key=Zay o:=by unfold Zay;rw [if_neg (by rw [hk];decide)];rw [if_pos (by simpa using hc1)];rfl
  refine wp_seq ?_
  refine Za hS (qg 1 101 r1 r1 (qa 101 r1 r1 (qf (oP (Zat _) Tryz.func115 (Args.one .t)) r1 qz (qf (Zw (.cs (by kernel_rfl)) .t (by simp only [List.length_append,List.length_cons,List.length_nil];omega)) r1 qz (qN rfl rfl qZ))))) hB [2,1] [101,0] rfl rfl fun a w F hS=>Zb (wp_ret (Zf ?_))
  refine Zn hfr hS rfl rfl rfl (.bs hg)
 have hr:o.read=true:=by simpa using hc1
 refine wp_skip (Zb (wp_seq ?_))
 refine Zu hS (qg 1 101 r1 r1 (qa 101 r1 r1 (qf (oP (Zat _) Tryz.func115 (Args.one .t)) r1 qz (qf (Zw (.cs (by kernel_rfl)) .t (by simp only [List.length_append,List.length_cons,List.length_nil];omega)) r1 qz (qf (Zw .t (.cs (by kernel_rfl)) (by simp only [List.length_append,List.length_cons,List.length_nil];omega)) r1 qz (qg 2 101 r1 r1 (qa 101 r1 r1 (qf (oP (Zat _) Tryz.func115 (Args.one .t)) r1 qz (qf (Zw .t .t (by simp only [List.length_append,List.length_cons,List.length_nil];omega)) r2 qz (qN rfl rfl qZ)))))))))) hB [3,2,1] [101,0] rfl rfl fun a w F hS=>?_
 try dsimp only [List.map,xD,xE,xT,xU,ldSF] at hS
 refine Zb (wp_seq (wp_seq ?_))
 refine Za hS (qg 2 101 r1 r1 (qa 101 r1 r1 (qf (o_eql .t qi) r1 qz qZ))) hB [25,3,2,1] [101,0] rfl rfl fun a w F hS=>Zb ?_
 refine Zd hS rfl (fun hc2=>?_) (fun hc2=>?_)
 ·skip
  have hg:(([114] ++ textL o.key) ++ [64])++textL o.tx=Zay o:=by
    have ht:o.tx=0:=by simpa using hc2
    unfold Zay;rw [if_neg (by rw [hk];decide)]
    rw [if_neg (by rw [hr];decide),if_pos ht,ht,ZhW,List.append_assoc]
    rfl
  refine wp_seq ?_
  refine Za hS (qM rfl rfl (qN rfl rfl qZ)) hB [3,2,1] [101,0] rfl rfl fun a w F hS=>Zb (wp_ret (Zf ?_))
  refine Zn hfr hS rfl rfl rfl (.bs hg)
 have hg:((((([114] ++ textL o.key) ++ [64])++textL o.tx) ++ [46])++textL o.nth)=Zay o:=by unfold Zay;rw [if_neg (by rw [hk];decide)];rw [if_neg (by rw [hr];decide),if_neg (by simpa using hc2)];rfl
 refine wp_skip (Zb (wp_seq ?_))
 refine Za hS (qM rfl rfl (qf (Zw .t (.cs (by kernel_rfl)) (by simp only [List.length_append,List.length_cons,List.length_nil];omega)) r1 qz (qg 3 101 r1 r1 (qa 101 r1 r1 (qf (oP (Zat _) Tryz.func115 (Args.one .t)) r1 qz (qf (Zw .t .t (by simp only [List.length_append,List.length_cons,List.length_nil];omega)) r2 qz (qN rfl rfl qZ))))))) hB [2] [101,0] rfl rfl fun a w F hS=>Zb (wp_ret ?_)
 refine Zn hfr hS rfl rfl rfl (.bs hg)
theorem ZjU {o:OpD} : ZbE o=0 ↔ Z0 o=true:=by unfold ZbE;split <;> simp_all
theorem Zjl {o:OpD} (hk:Z0 o=true) (hr:o.read=false):Zay o=119 :: textL o.key:=by unfold Zay;rw [if_neg (by rw [hk];decide),if_pos hr]
theorem Zjx {o:OpD} (hk:Z0 o=true) (hr:o.read=true) (h:o.tx=0):Zay o=114 :: (textL o.key++64 :: textL 0):=by
 unfold Zay
 rw [if_neg (by rw [hk];decide),if_neg (by rw [hr];decide),if_pos h,ZhW]
 simp
theorem Zlo {o:OpD} (hk:Z0 o=true) (hr:o.read=true) (h:o.tx≠0):Zay o=114 :: (textL o.key++64 :: (textL o.tx++46 :: textL o.nth)):=by
 unfold Zay
 rw [if_neg (by rw [hk];decide),if_neg (by rw [hr];decide),if_neg h]
 simp
theorem Zil {o:OpD} (hk:Z0 o=true):(Zay o).length≤100:=by
 have hb:=ZdW hk
 have l1:=ZN (n:=o.key) (by omega)
 have l2:=ZN (n:=o.tx) (by omega)
 have l3:=ZN (n:=o.nth) (by omega)
 have l4:=ZN (n:=0) (by omega)
 by_cases hr:o.read=true
 · by_cases h:o.tx=0
   · rw [Zjx hk hr h]
     simp only [List.length_cons,List.length_append]
     omega
   · rw [Zlo hk hr h]
     simp only [List.length_cons,List.length_append]
     omega
 · rw [Zjl hk (by simpa using hr)]
   simp only [List.length_cons]
   omega
theorem ZoR (t : TxD) (hl : t.ops.length ≤ 1000000) (p : OpD → Bool) (f : FuncId) (fn : Func) (cps : List PV) (hf : Tryz.prog.funcs[f]? = some fn) (hb : fn.body.isSome = true) (hnn : (fn.name == "runtime.NumGoroutine") = false) (hw : ∀ x, FnP Tryz.prog f (.agg (rOp x) :: cps) (.bool (p x))) : FnP Tryz.prog 162 [.agg (rTx t), .clos f cps] (.sl rInt (ZaO ((t.ops.filter p).map OpD.key))) := by
 refine FnP.mk Tryz.func162 rfl Tryz.ntmps162 rfl ?_
 intro B a w F hB hfr hS
 refine wp_seq ?_
 refine Zc hS (qx 101 r1 (qC qZ)) hB [4,2,1] [101,0] (fun _=>rfl) (fun _=>rfl) fun τ a w F hS=>?_
 try dsimp only [RS.sub,SF.sub,CF.sub,csub,Anc.sub,List.map,zCF,rInt,rOp,rTx] at hS
 generalize τ 2=v2 at hS
 refine Zb (wp_seq ?_)
 refine Za hS (qC qZ) hB [5,4,2,1] [101,0] rfl rfl fun a w F hS=>Zb (wp_seq (wp_seq ?_))
 refine Za hS (qg 2 101 r1 r1 (qa 101 r1 r1 (qu Tryz.underlying38 r1 (qJ qZ)))) hB [11,10,9,5,4,1] [101,0] rfl rfl fun a w F hS=>Zb (wp_block ?_)
 replace hS:=hS.fresh 50 rfl
 replace hS:=hS.turn 50 rfl (Zav (T:=3) (sz:=1) (R:=rInt))
 refine Zl (σ:=(Nat)×(Value)×(List Int)) [1,4,9,10] [0,101] (fun s=>[(11,.pv (.int .i64 (s.1:Int))),(5,.pv (.is s.2.1))]) (fun s=>[(50,.ob (.val s.2.1) (Zy 3 1 rInt s.2.2))]) (fun s=>s.1≤t.ops.length∧(s.2.2=(((t.ops.take s.1).filter p).map OpD.key))) (fun s=>t.ops.length - s.1) ((0),(.slice none 0 0),([])) hS ⟨rfl,rfl,rfl,rfl,rfl,rfl,trivial⟩ ⟨rfl,rfl,rfl,trivial⟩ ⟨Nat.zero_le _,rfl⟩ ?_
 clear hS;intro s a w F hC hS
 obtain ⟨i,v,out⟩:=s
 try dsimp only at hC
 obtain ⟨F,hS⟩:=hS.nm [11,10,9,5,4,1] [101,50,0] rfl rfl
 try dsimp only at hS
 obtain ⟨hi,hq⟩:=hC
 have hol:out.length≤i:=by rw [hq,List.length_map];exact Nat.le_trans (List.length_filter_le _ _) (by rw [List.length_take];omega)
 refine wp_seq ?_
 refine Za hS (qL r2) hB [12,11,10,9,5,4,1] [101,50,0] rfl rfl fun a w F hS=>Zb (wp_seq ?_)
 refine Zd hS rfl (fun hc0=>?_) (fun hc0=>?_)
 ·skip
  have hil:i<t.ops.length:=by simp at hc0;omega
  refine wp_skip (Zb (wp_seq (wp_block (wp_seq ?_))))
  refine Zc hS (qy 4 Tryz.underlying38 r2 (qf (oR true 4 .t) r1 qz (qf (oH [.bool false,.int .i64 0,.int .i64 0,.int .i64 0] 102) trivial qz (qS 4 102 r2 r1 qZ)))) hB [11,10,9,7,5,4,1] [102,101,50,0] (fun _=>rfl) (fun _=>rfl) fun τ a w F hS=>?_
  try dsimp only [RS.sub,SF.sub,CF.sub,csub,Anc.sub,List.map,Zg,xL,xM,Nat.reduceAdd,xD,xE,xT,xU,xC,xN,zCF,ldSF,rInt,rOp,rTx] at hS
  generalize τ 7=v7 at hS
  try simp only [Int.toNat_natCast] at hS
  refine Zb (wp_seq ?_)
  refine Za hS (qM rfl rfl (qe 4 102 r1 r1 (qf (Z2 (avs:=[.agg (rOp (Go.Gm.nth t.ops i))]) .t (hw (Go.Gm.nth t.ops i)) hf hb hnn (Args.one (.pagg .t))) r2 qz qZ))) hB [17,11,10,9,7,5,4,1] [102,101,50,0] rfl rfl fun a w F hS=>Zb ?_
  refine Zd hS rfl (fun hc1=>?_) (fun hc1=>?_)
  ·skip
   have hBq:p (Go.Gm.nth t.ops i)=true:=by simpa using hc1
   refine Zc hS (qM rfl rfl (qg 1 102 r1 r1 (qa 102 r1 r1 (qf (Zj (sz:=1) (zs:=[.int .i64 0]) (r:=[(0,.tmp 20)]) (l:=[_]) Tryz.underlying41 (by kernel_rfl) (by kernel_rfl) (by kernel_rfl) (by kernel_rfl) rfl rfl (.one rfl .t one_int (by kernel_rfl) .nil) rfl) r1 qz (qf (o_append (sz:=1) (bs:=8) 50 (.mk' Tryz.underlying41 (by kernel_rfl) (by kernel_rfl)) (by intro x;rfl) .is (.arr (l':=[(Go.Gm.nth t.ops i).key]) .t) (by simp only [List.length_append,List.length_cons,List.length_nil,List.length_take,List.length_drop];omega) (by decide)) ⟨rfl,rfl,trivial⟩ ⟨rfl,trivial⟩ (qN rfl rfl qZ)))))) hB [11,10,9,5,4,1] [102,101,50,0] (fun _=>rfl) (fun _=>rfl) fun τ a w F hS=>?_
   try dsimp only [RS.sub,SF.sub,CF.sub,csub,Anc.sub,List.map,Zg,xL,xM,Nat.reduceAdd,xD,xE,xT,xU,xC,xN,zCF,ldSF,rInt,rOp,rTx] at hS
   generalize τ 22=v22 at hS
   refine Zh (Zb ?_)
   refine Za hS (qp r1 (qM rfl rfl qZ)) hB [11,10,9,5,4,1] [102,101,50,0] rfl rfl fun a w F hS=>Zb ?_
   replace hS:=hS.ent (i:=11) (s':=.pv (.int .i64 ((i+1:Nat):Int))) rfl (.int (Ze (by omega)))
   obtain ⟨F,hS⟩:=hS.nm [10,9,4,1,5,11] [101,0,50] rfl rfl
   exact ⟨((i+1),_,_),F,⟨by omega,(by rw [Zt hil,List.filter_append,List.map_append,← hq];simp [hBq])⟩,hS,by omega⟩
  have hBq:p (Go.Gm.nth t.ops i)=false:=by simpa using hc1
  refine wp_skip (Zh (Zb ?_))
  refine Za hS (qp r1 (qM rfl rfl qZ)) hB [11,10,9,5,4,1] [102,101,50,0] rfl rfl fun a w F hS=>Zb ?_
  replace hS:=hS.ent (i:=11) (s':=.pv (.int .i64 ((i+1:Nat):Int))) rfl (.int (Ze (by omega)))
  obtain ⟨F,hS⟩:=hS.nm [10,9,4,1,5,11] [101,0,50] rfl rfl
  exact ⟨((i+1),_,_),F,⟨by omega,(by rw [Zt hil,List.filter_append,List.map_append,← hq];simp [hBq])⟩,hS,by omega⟩
 have hil:i=t.ops.length:=by simp at hc0;omega
 refine wp_exit (Zi (Zi (Zo (Zb (wp_seq ?_)))))
 refine Za hS (qM rfl rfl (qf (Zd0 50 (Zkq _ out (by omega)) Tryz.func103 rfl (by kernel_rfl) (Args.one .t)) r1 r1 qZ)) hB [5,4] [101,50,0] rfl rfl fun a w F hS=>Zb (wp_seq ?_)
 refine Zc hS (qM rfl rfl (qf (Zbv 50 (Zpq _ _ (by rw [List.length_mergeSort];omega)) Tryz.func193 rfl (by kernel_rfl) (Args.one .t) Za4) r1 r1 (qN rfl rfl qZ))) hB [4] [101,50,0] (fun _=>rfl) (fun _=>rfl) fun τ a w F hS=>?_
 try dsimp only [RS.sub,SF.sub,CF.sub,csub,Anc.sub,List.map,rInt,rOp,rTx] at hS
 generalize τ 27=v27 at hS
 refine Zb (wp_ret ?_)
 obtain ⟨F,hS⟩:=hS.give 50 4 rfl rfl
 refine Zn hfr hS rfl rfl rfl (.sl (by rw [ZgH,Zjy,hq,hil,List.take_length]))
theorem Zcv (l:List Int):(ZaO l).length≤l.length:=by
 have key:∀ (l acc:List Int),(l.foldl ZbY acc).length≤acc.length+l.length:=fun l=>by
   induction l with
   | nil=>intro acc;simp
   | cons x l ih=>
     intro acc
     have h1:=ih (ZbY acc x)
     have h2:(ZbY acc x).length≤acc.length+1:=Zdw acc false
     rw [List.foldl_cons,List.length_cons];omega
 have:=key l []
 simpa [ZaO] using this
theorem ZmC (t:TxD) (all:Bool) (hl:t.ops.length≤1000000):FnP Tryz.prog 151 [.agg (rTx t),.bool all] (.sl rInt (ZaO ((t.ops.filter fun o=>all || !o.read).map OpD.key))):=by
 refine FnP.mk Tryz.func151 rfl Tryz.ntmps151 rfl ?_
 intro B a w F hB hfr hS
 refine wp_seq ?_
 refine Zc hS (qx 101 r1 (qC qZ)) hB [4,2,1] [101,0] (fun _=>rfl) (fun _=>rfl) fun τ a w F hS=>?_
 try dsimp only [RS.sub,SF.sub,CF.sub,csub,Anc.sub,List.map,zCF,rInt,rOp,rTx] at hS
 generalize τ 2=v2 at hS
 refine Zb (wp_seq ?_)
 refine Za hS (qC qZ) hB [5,4,2,1] [101,0] rfl rfl fun a w F hS=>Zb (wp_seq (wp_seq ?_))
 refine Za hS (qg 2 101 r1 r1 (qa 101 r1 r1 (qu Tryz.underlying38 r1 (qJ qZ)))) hB [11,10,9,5,4,1] [0] rfl rfl fun a w F hS=>Zb (wp_block ?_)
 replace hS:=hS.ent (i:=5) (s':=.pv (.sl rInt [])) rfl (.nilSl)
 refine Zl (σ:=(Nat)) [1,4,9,10] [0] (fun s=>[(11,.pv (.int .i64 (s:Int))),(5,.pv (.sl rInt (ZaO (((t.ops.take s).filter fun o=>all || !o.read).map OpD.key))))]) (fun s=>[]) (fun s=>s≤t.ops.length∧(True)) (fun s=>t.ops.length - s) (0) hS ⟨rfl,rfl,rfl,rfl,rfl,rfl,trivial⟩ ⟨rfl,trivial⟩ ⟨Nat.zero_le _,trivial⟩ ?_
 clear hS;intro i a w F hC hS
 try dsimp only at hC
 obtain ⟨F,hS⟩:=hS.nm [11,10,9,5,4,1] [0] rfl rfl
 try dsimp only at hS
 obtain ⟨hi,hq⟩:=hC
 have hol:(ZaO (((t.ops.take i).filter fun o=>all || !o.read).map OpD.key)).length≤i:=by
   refine Nat.le_trans (Zcv _) ?_
   rw [List.length_map];exact Nat.le_trans (List.length_filter_le _ _) (by rw [List.length_take];omega)
 refine wp_seq ?_
 refine Za hS (qL r2) hB [12,11,10,9,5,4,1] [0] rfl rfl fun a w F hS=>Zb (wp_seq ?_)
 refine Zd hS rfl (fun hc0=>?_) (fun hc0=>?_)
 ·skip
  have hil:i<t.ops.length:=by simp at hc0;omega
  refine wp_skip (Zb (wp_seq (wp_block (wp_seq ?_))))
  refine Zc hS (qy 4 Tryz.underlying38 r2 (qf (oR true 4 .t) r1 qz (qf (oH [.bool false,.int .i64 0,.int .i64 0,.int .i64 0] 102) trivial qz (qS 4 102 r2 r1 qZ)))) hB [11,10,9,7,5,4,1] [102,0] (fun _=>rfl) (fun _=>rfl) fun τ a w F hS=>?_
  try dsimp only [RS.sub,SF.sub,CF.sub,csub,Anc.sub,List.map,Zg,xL,xM,Nat.reduceAdd,xD,xE,xT,xU,xC,xN,zCF,ldSF,rInt,rOp,rTx] at hS
  generalize τ 7=v7 at hS
  try simp only [Int.toNat_natCast] at hS
  refine Zb (wp_seq ?_)
  refine Za hS (qM rfl rfl (qM rfl rfl (qv 0 102 rfl r2 r1 (qw 102 rfl r2 r1 (qk rfl (fun h=>o_not (.w h)) r2 qz (qf (Z4 .t .t) r2 qz qZ)))))) hB [20,11,10,9,7,5,4,1] [102,0] rfl rfl fun a w F hS=>Zb ?_
  refine Zd hS rfl (fun hc1=>?_) (fun hc1=>?_)
  ·skip
   have hBq:(all || !(Go.Gm.nth t.ops i).read)=true:=by simpa using hc1
   refine Za hS (qM rfl rfl (qg 1 102 r1 r1 (qa 102 r1 r1 (qf (oP (Zlz _ (Go.Gm.nth t.ops i).key (by omega)) Tryz.func111 (Args.two .t .t)) r2 qz (qN rfl rfl qZ))))) hB [11,10,9,5,4,1] [0] rfl rfl fun a w F hS=>Zh (Zb ?_)
   refine Za hS (qp r1 (qM rfl rfl qZ)) hB [11,10,9,5,4,1] [0] rfl rfl fun a w F hS=>Zb ?_
   replace hS:=hS.ent (i:=11) (s':=.pv (.int .i64 ((i+1:Nat):Int))) rfl (.int (Ze (by omega)))
   replace hS:=hS.ent (i:=5) (s':=.pv (.sl rInt (ZaO (((t.ops.take (i+1)).filter fun o=>all || !o.read).map OpD.key)))) rfl ((.sl (by rw [Zt hil,List.filter_append,List.map_append];simp [hBq,ZaO])))
   obtain ⟨F,hS⟩:=hS.nm [10,9,4,1,5,11] [0] rfl rfl
   exact ⟨(i+1),F,⟨by omega,trivial⟩,hS,by omega⟩
  have hBq:(all || !(Go.Gm.nth t.ops i).read)=false:=by simpa using hc1
  refine wp_skip (Zh (Zb ?_))
  refine Za hS (qp r1 (qM rfl rfl qZ)) hB [11,10,9,5,4,1] [0] rfl rfl fun a w F hS=>Zb ?_
  replace hS:=hS.ent (i:=11) (s':=.pv (.int .i64 ((i+1:Nat):Int))) rfl (.int (Ze (by omega)))
  replace hS:=hS.ent (i:=5) (s':=.pv (.sl rInt (ZaO (((t.ops.take (i+1)).filter fun o=>all || !o.read).map OpD.key)))) rfl ((.sl (by rw [Zt hil,List.filter_append,List.map_append];simp [hBq,ZaO])))
  obtain ⟨F,hS⟩:=hS.nm [10,9,4,1,5,11] [0] rfl rfl
  exact ⟨(i+1),F,⟨by omega,trivial⟩,hS,by omega⟩
 have hil:i=t.ops.length:=by simp at hc0;omega
 refine wp_exit (Zi (Zi (Zo (Zb (wp_seq ?_)))))
 refine Za hS (qM rfl rfl (qN rfl rfl qZ)) hB [4] [0] rfl rfl fun a w F hS=>Zb (wp_ret ?_)
 refine Zn hfr hS rfl rfl rfl (.sl (by rw [hil,List.take_length]))
end Go.Proofs.YtjhapicamnijnaaGreat
