/- Texts put together. No condition beyond those that each theorem says. -/
import Derived.Test.YtdpkkdigojkpaaaGreatLibL
import Derived.Test.YtdpkkdigojkpaaaGreatLibE
import Derived.Test.YtdpkkdigojkpaaaGreatJ0
import Derived.Test.YtdpkkdigojkpaaaGreatJ5
import Derived.Test.YtdpkkdigojkpaaaGreatJ2
namespace Go.Proofs.YtdpkkdigojkpaaaGreat
open Go Go.Gm
set_option linter.unusedVariables false
set_option linter.unusedSimpArgs false
set_option maxHeartbeats 4000000
set_option maxRecDepth 8000
theorem Ent.adr0 {b:Nat} : Ent (.adr (.val (.pointer (some ⟨b,0,none⟩))) 0) (.pv (.is (.pointer (some ⟨b,0,none⟩)))):=fun _ _ _ _ h=>by
 have e:_=Value.pointer (some ⟨b,0,none⟩):=h
 exact ⟨e,by rw [e];rfl⟩
def ZqR (v rv:Value) (room:Int) (l:List Int):List RS:=[.pt (.val v) 328 [.pv (.is rv),.pv (.int .i64 room)],.ob (.val rv) (Zu 3 1 Zo l)]
def stH (v:Value) (room:Int) (l:List Int):HP:=.ex fun rv:Value=>.star (ZqR v rv room l)
def ZfL (n:Int):Int:=if 65536<(if n<0 then 0 else n) then 65536 else (if n<0 then 0 else n)
theorem ZlG {n:Int} (h:0≤n∧n≤65536):ZfL n=n:=by unfold ZfL;rw [if_neg (show ¬ n<0 by omega),if_neg (by omega)]
def ZnY (room:Int) (l:List Int):Int:=if room - l.length=0 then 2 else 0
def Zky (room:Int) (l:List Int) (x:Int):List Int:=if room - l.length=0 then l else l ++ [x]
theorem ZdH {v:Value} {room:Int} {l:List Int} {w:World} {f y:Ys} (h:(stH v room l).p w f y):∃ b,v = .pointer (some ⟨b,0,none⟩):=by
 obtain ⟨rv,g⟩:=h
 exact HP.star_pt g
theorem Zhn {room:Int} {l:List Int} (h:(l.length:Int)<room) (x:Int):ZnY room l=0∧Zky room l x=l ++ [x]:=⟨if_neg (by omega),if_neg (by omega)⟩
theorem nth_last {α:Type} [Inhabited α] {l:List α} {x:α} : Go.Gm.nth (l ++ [x]) l.length=x:=by rw [nth_eq (by simp)];simp
theorem ZoG {k:IntKind} {a:Int} {b:Bool} (v:Value) (w:World) (y:Ys) (w':World) (y':Ys) (h:(PV.tup [.int k a,.bool b]).p v w y):(PV.tup [.int k a,.bool b]).p v w' y':=by
 obtain ⟨vs,e,h⟩:=h
 exact ⟨vs,e,by
   match vs,h with
   | [u1,u2],h=>exact h⟩
theorem Zoa (n:Int):FnP Tryz.prog 280 [.int .i64 n] (.int .i64 (ZfL n)):=by
 refine FnP.mk Tryz.func280 rfl Tryz.ntmps280 rfl ?_
 intro B a w F hB hfr hS
 refine wp_seq ?_
 refine Zb hS (qI qZ) hB [2,0] [0] rfl rfl fun a w F hS=>Za (wp_seq ?_)
 refine Zb hS (qM rfl rfl (qf (ZqA .t qi) r1 qz (qf (o_min .t qi) r1 qz (qN rfl rfl qZ)))) hB [2] [0] rfl rfl fun a w F hS=>Za (wp_ret ?_)
 refine Zw hfr hS rfl rfl rfl .refl
theorem ZpJ (n:Int):FnG Tryz.prog 236 1 [.int .i64 n] [.star []] (PV.ptr) (fun v=>[stH v (ZfL n) []]):=by
 refine FnG.mk Tryz.func236 rfl Tryz.ntmps236 rfl (by kernel_rfl) ?_
 intro B F0 a w F hB hG hS
 refine wp_seq ?_
 refine Zb hS (qC qZ) hB [2,0] [1,0] rfl rfl fun a w F hS=>Za (wp_seq ?_)
 refine Zc hS (qM rfl rfl (qf (oP (Zoa n) Tryz.func280 (Args.one .t)) r1 qz (qf (oB [(1,.tmp 4)] [.slice none 0 0,.int .i64 0] [(0,1),(1,1)] (.one rfl .t one_int (by kernel_rfl) .nil)) r1 qz (qf (oX 101 .t) r1 qz (qN rfl rfl qZ))))) hB [2] [101,1,0] (fun _=>rfl) (fun _=>rfl) fun τ a w F hS=>?_
 try dsimp only [RS.sub,SF.sub,CF.sub,csub,Anc.sub,List.map,Zf,xL,xM,Nat.reduceAdd,xD,xE,xT,xU,xC,xN,zCF,Zo] at hS
 generalize τ 6=v6 at hS
 refine Za (wp_ret ?_)
 obtain ⟨b,rfl⟩:=hS.shape 101 rfl
 have hS:=hS.fresh 3 rfl
 have hS:=hS.turn 3 rfl (Zbj (T:=3) (sz:=1) (R:=Zo))
 obtain ⟨F,hS⟩:=hS.push 1 3 rfl rfl rfl (by kernel_rfl)
 obtain ⟨F,hS⟩:=hS.push 1 101 rfl rfl rfl (by kernel_rfl)
 have hS:=hS.turn 1 rfl (r':=RS.hp (stH (.pointer (some ⟨b,0,none⟩)) (ZfL n) [])) (fun _ _ _ _ h=>⟨_,h⟩)
 refine Z2 (h':=fun v=>stH v (ZfL n) []) hG hS rfl (.tmp rfl .nil) (.one .ptr) rfl
theorem ZqH (room:Int) (l:List Int):FnP Tryz.prog 335 [.ref [.sl Zo l,.int .i64 room]] (.int .i64 l.length):=by
 refine FnP.mk Tryz.func335 rfl Tryz.ntmps335 rfl ?_
 intro B a w F hB hfr hS
 refine wp_seq ?_
 refine Zb hS (qI qZ) hB [2,0] [0] rfl rfl fun a w F hS=>Za (wp_seq (wp_seq ?_))
 refine Zb hS (qM rfl rfl (qf (Zdg Tryz.underlying278 .t) r1 qz qZ)) hB [4,2,0] [0] rfl rfl fun a w F hS=>Za ?_
 refine Zd hS rfl (fun hc0=>?_) (fun hc0=>?_)
 ·skip
  simp at hc0
 refine wp_skip (Za (wp_seq ?_))
 refine Zb hS (qM rfl rfl (qf (ZP .t) r1 qz (qf (oG 0 .t) r1 qz (qf (oG 0 .t) r1 qz (qf (oR false 1 .t) r1 qz (qu Tryz.underlying34 r1 (qN rfl rfl qZ))))))) hB [2] [0] rfl rfl fun a w F hS=>Za (wp_ret ?_)
 refine Zw hfr hS rfl rfl rfl .refl
theorem ZnQ (room:Int) (l:List Int) (hr:0≤room∧room≤65536) (hn:(l.length:Int)≤room):FnP Tryz.prog 316 [.ref [.sl Zo l,.int .i64 room]] (.int .i64 (room - l.length)):=by
 refine FnP.mk Tryz.func316 rfl Tryz.ntmps316 rfl ?_
 intro B a w F hB hfr hS
 refine wp_seq ?_
 refine Zb hS (qI qZ) hB [2,0] [0] rfl rfl fun a w F hS=>Za (wp_seq (wp_seq ?_))
 refine Zb hS (qM rfl rfl (qf (Zdg Tryz.underlying278 .t) r1 qz qZ)) hB [4,2,0] [0] rfl rfl fun a w F hS=>Za ?_
 refine Zd hS rfl (fun hc0=>?_) (fun hc0=>?_)
 ·skip
  simp at hc0
 refine wp_skip (Za (wp_seq ?_))
 refine Zy hS (qM rfl rfl (qf (ZP .t) r1 qz (qf (oG 1 .t) r1 qz (qf (oR false 1 .t) r1 qz (qM rfl rfl (qf (ZP .t) r1 qz (qf (oG 0 .t) r1 qz (qf (oG 0 .t) r1 qz (qf (oR false 1 .t) r1 qz (qu Tryz.underlying34 r1 (qf (o_sub .t .t) r2 qz (qN rfl rfl qZ)))))))))))) hB [2] [0] rfl rfl fun a w F hS=>?_
 try dsimp only [List.map,xD,xE,xT,xU,ldSF,Zo] at hS
 refine Za (wp_ret ?_)
 refine Zw hfr hS rfl rfl rfl (.int (ZJ (by omega)))
theorem Zry (b:Nat) (room:Int) (l:List Int) (x:Int) (hl:l.length≤70000):FnG Tryz.prog 317 1 [.is (.pointer (some ⟨b,0,none⟩)),.int .i64 x] [stH (.pointer (some ⟨b,0,none⟩)) room l] (.tup []) (fun _=>[stH (.pointer (some ⟨b,0,none⟩)) room (l ++ [x])]):=by
 refine FnG.mk Tryz.func317 rfl Tryz.ntmps317 rfl (by kernel_rfl) ?_
 intro B F0 a w F hB hG hS
 obtain ⟨rv,hS⟩:=hS.open_ex 1 rfl
 obtain ⟨F,hS⟩:=hS.peel 1 2 rfl rfl
 obtain ⟨F,hS⟩:=hS.peel 1 3 rfl rfl
 obtain ⟨F,hS⟩:=hS.nm [1,0] [3,2,0] rfl rfl
 refine Zc hS (qM rfl rfl (qM rfl rfl (qf (o_nilCheck 2 .is (by rfl)) r1 r1 (qf (oF 0 2 .adr) r1 r1 (qa 2 r1 r1 (qM rfl rfl (qf (Zt (sz:=1) (zs:=[.int .i64 0]) (r:=[(0,.tmp 9)]) (l:=[_]) Tryz.underlying34 (by kernel_rfl) (by kernel_rfl) (by kernel_rfl) (by kernel_rfl) rfl rfl (.one rfl .t one_int (by kernel_rfl) .nil) rfl) r1 qz (qf (ZV (sz:=1) (bs:=8) 3 (.mk' Tryz.underlying34 (by kernel_rfl) (by kernel_rfl)) (by intro x;rfl) .is (.arr (l':=[_]) .t) (by simp only [List.length_cons,List.length_nil];omega) (by decide)) ⟨rfl,rfl,trivial⟩ ⟨rfl,trivial⟩ (qf (o_nilCheck 2 .is (by rfl)) r1 r1 (qf (oF 0 2 .adr) r1 r1 (qf (o_storeS 2 .adr (by kernel_rfl) (by kernel_rfl)) r2 r1 qZ))))))))))) hB [] [3,2,0] (fun _=>rfl) (fun _=>rfl) fun τ a w F hS=>?_
 try dsimp only [RS.sub,SF.sub,CF.sub,csub,Anc.sub,List.map,Zf,xL,xM,Nat.reduceAdd,xD,xE,xT,xU,xC,xN,zCF,ldSF,Zo] at hS
 generalize τ 11=v11 at hS
 have hS:=hS.fresh 1 rfl
 obtain ⟨F,hS⟩:=hS.push 1 3 rfl rfl rfl (by kernel_rfl)
 obtain ⟨F,hS⟩:=hS.push 1 2 rfl rfl rfl (by kernel_rfl)
 have hS:=hS.turn 1 rfl (r':=RS.hp (stH (.pointer (some ⟨b,0,none⟩)) room (l ++ [x]))) (fun _ _ _ _ h=>⟨_,h⟩)
 refine Zas hG hS rfl .nil ZaF.none rfl
theorem ZnL (b:Nat) (room:Int) (l:List Int) (x:Int) (hr:0≤room∧room≤65536) (hn:(l.length:Int)≤room):FnG Tryz.prog 303 1 [.is (.pointer (some ⟨b,0,none⟩)),.int .i64 x] [stH (.pointer (some ⟨b,0,none⟩)) room l] (.int .i64 (ZnY room l)) (fun _=>[stH (.pointer (some ⟨b,0,none⟩)) room (Zky room l x)]):=by
 refine FnG.mk Tryz.func303 rfl Tryz.ntmps303 rfl (by kernel_rfl) ?_
 intro B F0 a w F hB hG hS
 obtain ⟨rv,hS⟩:=hS.open_ex 1 rfl
 obtain ⟨F,hS⟩:=hS.peel 1 2 rfl rfl
 obtain ⟨F,hS⟩:=hS.peel 1 3 rfl rfl
 obtain ⟨F,hS⟩:=hS.nm [1,0] [3,2,0] rfl rfl
 refine wp_seq ?_
 refine Zb hS (qI qZ) hB [4,1,0] [3,2,0] rfl rfl fun a w F hS=>Za (wp_seq (wp_seq ?_))
 refine Zb hS (qM rfl rfl (qf (ZgO (cells:=[.pv (.is rv),.pv _]) 2 3 0 (ZnQ room l hr hn) (fun _ _ _ _ _ h=>h) rfl Tryz.func316 rfl (by kernel_rfl) rfl rfl (Zay.one .is)) r1 r2 (qf (o_eql .t qi) r1 qz qZ))) hB [7,4,1,0] [3,2,0] rfl rfl fun a w F hS=>Za ?_
 refine Zd hS rfl (fun hc0=>?_) (fun hc0=>?_)
 ·skip
  have hf:room - (l.length:Int)=0:=by simpa using hc0
  have hg:2=ZnY room l:=(if_pos hf).symm
  have hg2:Zky room l x=l:=if_pos hf
  refine wp_seq ?_
  refine Zb hS (qI qZ) hB [4,1,0] [3,2,0] rfl rfl fun a w F hS=>Za (wp_ret (Zi ?_))
  have hS:=hS.fresh 1 rfl
  obtain ⟨F,hS⟩:=hS.push 1 3 rfl rfl rfl (by kernel_rfl)
  obtain ⟨F,hS⟩:=hS.push 1 2 rfl rfl rfl (by kernel_rfl)
  have hS:=hS.turn 1 rfl (r':=RS.hp (stH (.pointer (some ⟨b,0,none⟩)) room (Zky room l x))) (fun _ _ _ _ h=>⟨_,(by rw [hg2];exact h)⟩)
  refine Zas hG hS rfl (.tmp rfl .nil) (.one (.int (by rw [hg]))) rfl
 have hf:¬ room - (l.length:Int)=0:=by simpa using hc0
 have hg:0=ZnY room l:=(if_neg hf).symm
 have hg2:Zky room l x=l ++ [x]:=if_neg hf
 refine wp_skip (Za (wp_seq ?_))
 refine Zah 3 hS (by kernel_rfl) (cG rfl (oM .t) r1 trivial (cG rfl (o_nilCheck 2 .is (by rfl)) r1 r1 (cG rfl (oF 0 2 .adr) r1 r1 ChainN.nil))) (by kernel_rfl) (by rw [hB];kernel_rfl) fun a w F hS=>?_
 obtain ⟨F,hS⟩:=hS.nm [10,4,1] [3,2,0] rfl rfl
 try dsimp only [Zo] at hS
 have hS:=hS.fresh 1 rfl
 obtain ⟨F,hS⟩:=hS.push 1 3 rfl rfl rfl (by kernel_rfl)
 obtain ⟨F,hS⟩:=hS.push 1 2 rfl rfl rfl (by kernel_rfl)
 have hS:=hS.turn 1 rfl (r':=RS.hp (stH (.pointer (some ⟨b,0,none⟩)) room l)) (fun _ _ _ _ h=>⟨_,h⟩)
 obtain ⟨F,hS⟩:=hS.nm [10,4,1] [1,0] rfl rfl
 refine Zav hS (by kernel_rfl) (cG rfl (oM .t) r1 trivial (cG rfl (Z5 1 (Zry b room l x (by omega)) Tryz.func317 rfl (by kernel_rfl) (Args.two (.conv .t (Ent.adr0)) .t)) r2 r1 ChainN.nil)) (by kernel_rfl) (by rw [hB];kernel_rfl) fun a w F hS=>?_
 obtain ⟨F,hS⟩:=hS.nm [4] [1,0] rfl rfl
 try dsimp only [Zo] at hS
 refine Za (wp_seq ?_)
 refine Zb hS (qI qZ) hB [4] [1,0] rfl rfl fun a w F hS=>Za (wp_ret ?_)
 have hS:=hS.turn 1 rfl (r':=RS.hp (stH (.pointer (some ⟨b,0,none⟩)) room (Zky room l x))) (fun _ _ _ _ h=>by rw [hg2];exact h)
 refine Zas hG hS rfl (.tmp rfl .nil) (.one (.int (by rw [hg]))) rfl
theorem ZlP (b:Nat) (room:Int) (l:List Int) (x:Int) (hr:0≤room∧room≤65536) (h:(l.length:Int)<room):FnG Tryz.prog 303 1 [.is (.pointer (some ⟨b,0,none⟩)),.int .i64 x] [stH (.pointer (some ⟨b,0,none⟩)) room l] (.int .i64 0) (fun _=>[stH (.pointer (some ⟨b,0,none⟩)) room (l ++ [x])]):=by
 have:=ZnL b room l x hr (by omega)
 rw [(Zhn h x).1,(Zhn h x).2] at this;exact this
theorem Zm9 (room:Int) (l:List Int) (x:Int) (hl:l.length≤70000):FnP Tryz.prog 318 [.ref [.sl Zo (l ++ [x]),.int .i64 room]] (.tup [.int .i64 x,.bool true]):=by
 refine FnP.mk Tryz.func318 rfl Tryz.ntmps318 rfl ?_
 intro B a w F hB hfr hS
 have hw1:IntKind.wrap .i64 (((l ++ [x]).length:Int) - 1)=((l.length:Nat):Int):=by rw [ZJ (by rw [List.length_append,List.length_singleton];omega),List.length_append,List.length_singleton];omega
 refine wp_seq ?_
 refine Zb hS (qI qB) hB [3,2,0] [0] rfl rfl fun a w F hS=>Za (wp_seq (wp_seq ?_))
 refine Zb hS (qM rfl rfl (qf (oP (ZqH room (l ++ [x])) Tryz.func335 (Args.one .t)) r1 qz (qf (o_eql .t qi) r1 qz qZ))) hB [6,3,2,0] [0] rfl rfl fun a w F hS=>Za ?_
 refine Zd hS rfl (fun hc0=>?_) (fun hc0=>?_)
 ·skip
  simp at hc0;try omega
 refine wp_skip (Za (wp_seq ?_))
 refine Zy hS (qM rfl rfl (qf (ZP .t) r1 qz (qf (oG 0 .t) r1 qz (qf (oG 0 .t) r1 qz (qf (oR false 1 .t) r1 qz (qM rfl rfl (qf (ZP .t) r1 qz (qf (oG 0 .t) r1 qz (qf (oG 0 .t) r1 qz (qf (oR false 1 .t) r1 qz (qu Tryz.underlying34 r1 (qf (o_sub .t qi) r1 qz (qf (o_indexAddr_sl (sz:=1) (.mk Tryz.underlying34 (by kernel_rfl)) (by intro x;rfl) .t .t (by rw [hw1];omega) (by rw [hw1,List.length_append,List.length_singleton];omega)) r2 qz (qf (oR false 1 .t) r1 qz (qN rfl rfl qB))))))))))))))) hB [3,2] [0] rfl rfl fun a w F hS=>?_
 try dsimp only [List.map,xD,xE,xT,xU,ldSF,Zo] at hS
 try simp only [Int.toNat_natCast] at hS
 rw [hw1,Int.toNat_natCast,nth_last] at hS
 refine Za (wp_ret ?_)
 refine Zao hfr hS rfl (.tmp rfl (.tmp rfl .nil)) (.two .refl .refl)
theorem Zq1 (b:Nat) (room:Int) (l:List Int) (x:Int) (hl:l.length≤70000):FnG Tryz.prog 319 1 [.is (.pointer (some ⟨b,0,none⟩))] [stH (.pointer (some ⟨b,0,none⟩)) room (l ++ [x])] (.tup []) (fun _=>[stH (.pointer (some ⟨b,0,none⟩)) room l]):=by
 refine FnG.mk Tryz.func319 rfl Tryz.ntmps319 rfl (by kernel_rfl) ?_
 intro B F0 a w F hB hG hS
 obtain ⟨rv,hS⟩:=hS.open_ex 1 rfl
 obtain ⟨F,hS⟩:=hS.peel 1 2 rfl rfl
 obtain ⟨F,hS⟩:=hS.peel 1 3 rfl rfl
 obtain ⟨F,hS⟩:=hS.nm [0] [3,2,0] rfl rfl
 have hw1:IntKind.wrap .i64 (((l ++ [x]).length:Int) - 1)=((l.length:Nat):Int):=by rw [ZJ (by rw [List.length_append,List.length_singleton];omega),List.length_append,List.length_singleton];omega
 refine ZaP hS (qM rfl rfl (qM rfl rfl (qf (o_nilCheck 2 .is (by rfl)) r1 r1 (qf (oF 0 2 .adr) r1 r1 (qa 2 r1 r1 (qM rfl rfl (qf (o_nilCheck 2 .is (by rfl)) r1 r1 (qf (oF 0 2 .adr) r1 r1 (qa 2 r1 r1 (qf (ZQ 3 Tryz.underlying34 .is) r1 r1 (qf (o_sub .t qi) r1 qz (qf (ZbK (sz:=1) 3 (.mk Tryz.underlying34 (by kernel_rfl)) (by intro x;rfl) .is .t (by rw [hw1];omega) (by rw [hw1,List.length_append,List.length_singleton];omega)) r2 r1 (qf (o_nilCheck 2 .is (by rfl)) r1 r1 (qf (oF 0 2 .adr) r1 r1 (qf (o_storeS 2 .adr (by kernel_rfl) (by kernel_rfl)) r2 r1 qZ))))))))))))))) hB [] [3,2,0] (fun _=>rfl) (fun _=>rfl) fun τ a w F hS=>?_
 try dsimp only [RS.sub,SF.sub,CF.sub,csub,Anc.sub,List.map,Zf,xL,xM,Nat.reduceAdd,xD,xE,xT,xU,xC,xN,zCF,ldSF,Zo] at hS
 generalize τ 13=v13 at hS
 rw [hw1,Int.toNat_natCast,List.take_left] at hS
 have hS:=hS.fresh 1 rfl
 obtain ⟨F,hS⟩:=hS.push 1 3 rfl rfl rfl (by kernel_rfl)
 obtain ⟨F,hS⟩:=hS.push 1 2 rfl rfl rfl (by kernel_rfl)
 have hS:=hS.turn 1 rfl (r':=RS.hp (stH (.pointer (some ⟨b,0,none⟩)) room l)) (fun _ _ _ _ h=>⟨_,h⟩)
 refine Zas hG hS rfl .nil ZaF.none rfl
theorem ZpG (b:Nat) (room:Int) (l:List Int) (x:Int) (hl:l.length≤70000):FnG Tryz.prog 305 1 [.is (.pointer (some ⟨b,0,none⟩))] [stH (.pointer (some ⟨b,0,none⟩)) room (l ++ [x])] (.tup [.int .i64 x,.bool true]) (fun _=>[stH (.pointer (some ⟨b,0,none⟩)) room l]):=by
 refine FnG.mk Tryz.func305 rfl Tryz.ntmps305 rfl (by kernel_rfl) ?_
 intro B F0 a w F hB hG hS
 obtain ⟨rv,hS⟩:=hS.open_ex 1 rfl
 obtain ⟨F,hS⟩:=hS.peel 1 2 rfl rfl
 obtain ⟨F,hS⟩:=hS.peel 1 3 rfl rfl
 obtain ⟨F,hS⟩:=hS.nm [0] [3,2,0] rfl rfl
 refine wp_seq ?_
 refine Zb hS (qI qB) hB [3,2,0] [3,2,0] rfl rfl fun a w F hS=>Za (wp_seq ?_)
 refine Zb hS (qM rfl rfl (qf (ZgO (cells:=[.pv (.is rv),.pv _]) 2 3 0 (Zm9 room l x hl) ZoG rfl Tryz.func318 rfl (by kernel_rfl) rfl rfl (Zay.one .is)) r1 r2 (qM rfl rfl (qf (Zq .t rfl) r1 qz (qf (Zq .t rfl) r1 qz (qN rfl rfl (qN rfl rfl qZ))))))) hB [5,4,3,2,0] [3,2,0] rfl rfl fun a w F hS=>Za (wp_seq (wp_seq ?_))
 refine Zb hS (qM rfl rfl qZ) hB [11,5,4,3,2,0] [3,2,0] rfl rfl fun a w F hS=>Za ?_
 refine Zd hS rfl (fun hc0=>?_) (fun hc0=>?_)
 ·skip
  refine Zah 3 hS (by kernel_rfl) (cG rfl (oM .t) r1 trivial (cG rfl (o_nilCheck 2 .is (by rfl)) r1 r1 (cG rfl (oF 0 2 .adr) r1 r1 ChainN.nil))) (by kernel_rfl) (by rw [hB];kernel_rfl) fun a w F hS=>?_
  obtain ⟨F,hS⟩:=hS.nm [14,5,4,3,2] [3,2,0] rfl rfl
  try dsimp only [Zo] at hS
  have hS:=hS.fresh 1 rfl
  obtain ⟨F,hS⟩:=hS.push 1 3 rfl rfl rfl (by kernel_rfl)
  obtain ⟨F,hS⟩:=hS.push 1 2 rfl rfl rfl (by kernel_rfl)
  have hS:=hS.turn 1 rfl (r':=RS.hp (stH (.pointer (some ⟨b,0,none⟩)) room (l ++ [x]))) (fun _ _ _ _ h=>⟨_,h⟩)
  obtain ⟨F,hS⟩:=hS.nm [14,5,4,3,2] [1,0] rfl rfl
  refine Zav hS (by kernel_rfl) (cG rfl (Z5 1 (Zq1 b room l x hl) Tryz.func319 rfl (by kernel_rfl) (Args.one (.conv .t (Ent.adr0)))) r1 r1 ChainN.nil) (by kernel_rfl) (by rw [hB];kernel_rfl) fun a w F hS=>?_
  obtain ⟨F,hS⟩:=hS.nm [5,4,3,2] [1,0] rfl rfl
  try dsimp only [Zo] at hS
  refine Za (wp_seq ?_)
  refine Zb hS (qM rfl rfl (qM rfl rfl (qN rfl rfl (qN rfl rfl qZ)))) hB [3,2] [1,0] rfl rfl fun a w F hS=>Za (wp_ret ?_)
  refine Zas hG hS rfl (.tmp rfl (.tmp rfl .nil)) (.two .refl .refl) rfl
 simp at hc0
inductive Rch (E:Int→Int→Prop) (u:Int):Int→Prop
 | one {v:Int} (h:E u v):Rch E u v
 | step {v w:Int} (h:Rch E u v) (k:E v w):Rch E u w
theorem Rch.trans {E:Int→Int→Prop} {u v w:Int} (h:Rch E u v) (k:Rch E v w):Rch E u w:=by
 induction k with
 | one k=>exact .step h k
 | step _ k ih=>exact .step ih k
theorem Rch.mono {E E':Int→Int→Prop} (hE:∀ a b,E a b→E' a b) {u v:Int} (h:Rch E u v):Rch E' u v:=by
 induction h with
 | one h=>exact .one (hE _ _ h)
 | step _ k ih=>exact .step ih (hE _ _ k)
def EJ (adj:Int→List Int) (x y:Int):Prop:=y ∈ adj x
def ZcI (f:Int→Int) (x c:Int):Int→Int:=fun y=>if y=x then c else f y
theorem ZH {f:Int→Int} {x c:Int} : ZcI f x c x=c:=if_pos rfl
theorem Zap {f:Int→Int} {x c y:Int} (h:y≠x):ZcI f x c y=f y:=if_neg h
def ZbD (wh:Int→Int) (st:List Int) (d:Int):Prop:=wh d≠0∧d ∉ st
def Zk8 (adj:Int→List Int) (u x:Int):Prop:=x=u∨(Rch (EJ adj) u x∧Rch (EJ adj) x u)
def Zl6 (adj:Int→List Int) (u m:Int):Prop:=Zk8 adj u m ∧ ∀ x,Zk8 adj u x→m≤x
abbrev ZkY:Type:=List (Int×List Int)
def NxT (wh:Int→Int) (way:ZkY) (v y:Int):Prop:=(∃ q ∈ way,q.1=y)∧wh v<wh y ∧ ∀ p ∈ way,¬ (wh v<wh p.1∧wh p.1<wh y)
structure Tj (adj:Int→List Int) (wh lo out:Int→Int) (ck:Int) (st:List Int) (way:ZkY):Prop where
 pos:∀ u ∈ st,0<wh u
 dec:st.Pairwise fun a b=>wh b<wh a
 vis:∀ u,0≤wh u∧wh u≤ck
 low:∀ u ∈ st,lo u≤wh u ∧ ∃ w ∈ st,wh w=lo u∧(w=u∨Rch (EJ adj) u w)
 fin:∀ u ∈ st,(∀ p ∈ way,p.1≠u)→lo u<wh u ∧ ∀ y ∈ adj u,ZbD wh st y∨(y ∈ st∧lo u≤wh y)
 done:∀ d,ZbD wh st d→(∀ y ∈ adj d,ZbD wh st y)∧Zl6 adj d (out d)
 onst:∀ r ∈ way,r.1 ∈ st
 sub:∀ r ∈ way,∀ y ∈ r.2,y ∈ adj r.1
 wdec:way.Pairwise fun a b=>wh b.1<wh a.1
 arcs:∀ r ∈ way,∀ y ∈ adj r.1,y ∉ r.2→ZbD wh st y∨(y ∈ st∧lo r.1≤wh y)∨NxT wh way r.1 y
 lows:∀ r ∈ way,∀ u ∈ st,(∀ p ∈ way,p.1≠u)→wh r.1<wh u→(∀ p ∈ way,¬ (wh r.1<wh p.1∧wh p.1<wh u))→lo r.1≤lo u
 reach:∀ r ∈ way,∀ u ∈ st,wh r.1≤wh u→u=r.1∨Rch (EJ adj) r.1 u
 root:∀ u ∈ st,∃ r,way.getLast? = some r∧wh r.1≤wh u
section
variable {adj:Int→List Int} {wh lo out:Int→Int} {ck:Int} {st:List Int} {rest:ZkY} {v x:Int} {next:List Int}
theorem Zm5 (h:st.Pairwise fun a b=>wh b<wh a) {a b:Int} (ha:a ∈ st) (hb:b ∈ st) (e:wh a=wh b):a=b:=by
 induction st with
 | nil=>cases ha
 | cons x l ih=>
   rw [List.pairwise_cons] at h
   rcases List.mem_cons.1 ha with e1 | ha2 <;> rcases List.mem_cons.1 hb with e2 | hb2
   · rw [e1,e2]
   · have:=h.1 b hb2;rw [e1] at e;omega
   · have:=h.1 a ha2;rw [e2] at e;omega
   · exact ih h.2 ha2 hb2
theorem Tj.zero:Tj adj (fun _=>0) lo out 0 [] []:=
 ⟨by simp,.nil,fun _=>⟨Int.le_refl _,Int.le_refl _⟩,by simp,by simp,fun d h=>absurd rfl h.1,by simp,by simp,.nil,by simp,by simp,by simp,by simp⟩
theorem Tj.first (h:Tj adj wh lo out ck [] []) (hx:wh x=0):Tj adj (ZcI wh x (ck+1)) (ZcI lo x (ck+1)) out (ck+1) [x] [(x,adj x)]:=by
 have hck:=(h.vis x).2
 have hd:∀ y,ZbD (ZcI wh x (ck+1)) [x] y ↔ ZbD wh [] y:=fun y=>by
   unfold ZbD
   by_cases e:y=x
   · subst e;simp [hx]
   · rw [Zap e];simp [e]
 have v0:=h.vis x
 refine ⟨fun u hu=>?_,by simp,fun u=>?_,fun u hu=>?_,fun u hu hp=>?_,fun d hdd=>?_,fun r hr=>?_,fun r hr y hy=>?_,by simp,fun r hr y hy hn=>?_,fun r hr u hu hp=>?_,fun r hr u hu _=>?_,fun u hu=>?_⟩
 · obtain rfl:=List.mem_singleton.1 hu;rw [ZH];omega
 · by_cases e:u=x
   · rw [e,ZH];omega
   · rw [Zap e];have:=h.vis u;omega
 · obtain rfl:=List.mem_singleton.1 hu;exact ⟨by rw [ZH,ZH];exact Int.le_refl _,u,by simp,by rw [ZH,ZH],.inl rfl⟩
 · obtain rfl:=List.mem_singleton.1 hu;exact absurd rfl (hp (u,adj u) (by simp))
 · obtain ⟨h1,h2⟩:=h.done d ((hd d).1 hdd)
   exact ⟨fun y hy=>(hd y).2 (h1 y hy),h2⟩
 · obtain rfl:=List.mem_singleton.1 hr;simp
 · obtain rfl:=List.mem_singleton.1 hr;exact hy
 · obtain rfl:=List.mem_singleton.1 hr;exact absurd hy hn
 · obtain rfl:=List.mem_singleton.1 hr;obtain rfl:=List.mem_singleton.1 hu;exact absurd rfl (hp (u,adj u) (by simp))
 · obtain rfl:=List.mem_singleton.1 hr;obtain rfl:=List.mem_singleton.1 hu;exact .inl rfl
 · obtain rfl:=List.mem_singleton.1 hu;exact ⟨(u,adj u),rfl,Int.le_refl _⟩
theorem Tj.top (h:Tj adj wh lo out ck st ((v,next) :: rest)):(∀ r ∈ rest,wh r.1<wh v) ∧ ∀ p ∈ (v,next) :: rest,wh p.1≤wh v:=by
 have h1:=(List.pairwise_cons.1 h.wdec).1
 refine ⟨h1,fun p hp=>?_⟩
 rcases List.mem_cons.1 hp with rfl | hp
 · exact Int.le_refl _
 · exact Int.le_of_lt (h1 p hp)
theorem Tj.meet (h:Tj adj wh lo out ck st ((v,x :: next) :: rest)) (hx:wh x=0):Tj adj (ZcI wh x (ck+1)) (ZcI lo x (ck+1)) out (ck+1) (x :: st) ((x,adj x) :: (v,next) :: rest):=by
 have v0:=h.vis x
 have hxs:x ∉ st:=fun hm=>by have:=h.pos x hm;omega
 have hne:∀ u ∈ st,u≠x:=fun u hu e=>hxs (e ▸ hu)
 have hw:∀ u ∈ st,ZcI wh x (ck+1) u=wh u:=fun u hu=>Zap (hne u hu)
 have hl:∀ u ∈ st,ZcI lo x (ck+1) u=lo u:=fun u hu=>Zap (hne u hu)
 have hd:∀ y,ZbD (ZcI wh x (ck+1)) (x :: st) y ↔ ZbD wh st y:=fun y=>by
   unfold ZbD
   by_cases e:y=x
   · subst e;simp [hx]
   · rw [Zap e];simp [e]
 have hon:∀ r ∈ (v,next) :: rest,r.1 ∈ st:=fun r hr=>by
   rcases List.mem_cons.1 hr with rfl | hr
   · exact h.onst (v,x :: next) (by simp)
   · exact h.onst r (by simp [hr])
 have hfs:∀ p ∈ (v,next) :: rest,∃ q ∈ (v,x :: next) :: rest,q.1=p.1:=fun p hp=>by
   rcases List.mem_cons.1 hp with rfl | hp
   · exact ⟨_,List.mem_cons_self,rfl⟩
   · exact ⟨p,by simp [hp],rfl⟩
 have hfs2:∀ p ∈ (v,x :: next) :: rest,∃ q ∈ (v,next) :: rest,q.1=p.1:=fun p hp=>by
   rcases List.mem_cons.1 hp with rfl | hp
   · exact ⟨_,List.mem_cons_self,rfl⟩
   · exact ⟨p,by simp [hp],rfl⟩
 obtain ⟨ht1,ht2⟩:=h.top
 have hvs:v ∈ st:=h.onst (v,x :: next) (by simp)
 have hxv:x ∈ adj v:=h.sub (v,x :: next) (by simp) x (by simp)
 have hnx:∀ r ∈ (v,next) :: rest,∀ y ∈ st,NxT wh ((v,x :: next) :: rest) r.1 y→NxT (ZcI wh x (ck+1)) ((x,adj x) :: (v,next) :: rest) r.1 y:=fun r hr y hy ⟨⟨q,hq,e⟩,h2,h3⟩=>by
   obtain ⟨q',hq',e'⟩:=hfs2 q hq
   refine ⟨⟨q',List.mem_cons_of_mem _ hq',e'.trans e⟩,by rw [hw _ (hon r hr),hw y hy];exact h2,fun p hp=>?_⟩
   rw [hw _ (hon r hr),hw y hy]
   rcases List.mem_cons.1 hp with rfl | hp
   · rw [ZH];have:=(h.vis y).2;omega
   · rw [hw _ (hon p hp)]
     obtain ⟨p',hp',e2⟩:=hfs p hp
     rw [← e2];exact h3 p' hp'
 refine ⟨fun u hu=>?_,?_,fun u=>?_,fun u hu=>?_,fun u hu hp=>?_,fun d hdd=>?_,fun r hr=>?_,fun r hr y hy=>?_,?_,fun r hr y hy hn=>?_,fun r hr u hu hp hlt hb=>?_,fun r hr u hu hle=>?_,fun u hu=>?_⟩
 · rcases List.mem_cons.1 hu with rfl | hu
   · rw [ZH];omega
   · rw [hw u hu];exact h.pos u hu
 · refine List.pairwise_cons.2 ⟨fun u hu=>?_,?_⟩
   · rw [ZH,hw u hu];have:=(h.vis u).2;omega
   · refine List.Pairwise.imp_of_mem (fun {a b} ha hb k=>?_) h.dec
     rw [hw a ha,hw b hb];exact k
 · by_cases e:u=x
   · rw [e,ZH];omega
   · rw [Zap e];have:=h.vis u;omega
 · rcases List.mem_cons.1 hu with rfl | hu
   · exact ⟨by rw [ZH,ZH];exact Int.le_refl _,u,by simp,by rw [ZH,ZH],.inl rfl⟩
   · obtain ⟨h1,w,hws,h2,h3⟩:=h.low u hu
     rw [hl u hu,hw u hu]
     exact ⟨h1,w,by simp [hws],by rw [hw w hws];exact h2,h3⟩
 · have hux:u≠x:=fun e=>hp (x,adj x) (by simp) e.symm
   have hu:=(List.mem_cons.1 hu).resolve_left hux
   obtain ⟨h1,h2⟩:=h.fin u hu fun p hp2=>by
     obtain ⟨q,hq,e⟩:=hfs2 p hp2
     rw [← e];exact hp q (List.mem_cons_of_mem _ hq)
   rw [hl u hu,hw u hu]
   refine ⟨h1,fun y hy=>?_⟩
   rcases h2 y hy with h3 | ⟨h3,h4⟩
   · exact .inl ((hd y).2 h3)
   · exact .inr ⟨by simp [h3],by rw [hw y h3];exact h4⟩
 · obtain ⟨h1,h2⟩:=h.done d ((hd d).1 hdd)
   exact ⟨fun y hy=>(hd y).2 (h1 y hy),h2⟩
 · rcases List.mem_cons.1 hr with rfl | hr
   · simp
   · simp [hon r hr]
 · rcases List.mem_cons.1 hr with rfl | hr
   · exact hy
   · rcases List.mem_cons.1 hr with rfl | hr
     · exact h.sub (v,x :: next) (by simp) y (by simp at hy ⊢;exact .inr hy)
     · exact h.sub r (by simp [hr]) y hy
 · refine List.pairwise_cons.2 ⟨fun r hr=>?_,?_⟩
   · show ZcI wh x (ck+1) r.1<ZcI wh x (ck+1) x
     rw [ZH,hw _ (hon r hr)];have:=(h.vis r.1).2;omega
   · have h9:((v,next) :: rest).Pairwise fun a b=>wh b.1<wh a.1:=List.pairwise_cons.2 (List.pairwise_cons.1 h.wdec)
     refine List.Pairwise.imp_of_mem (fun {a b} ha hb k=>?_) h9
     rw [hw _ (hon a ha),hw _ (hon b hb)];exact k
 · rcases List.mem_cons.1 hr with rfl | hr
   · exact absurd hy hn
   · rcases List.mem_cons.1 hr with rfl | hr
     · by_cases e:y=x
       · subst e
         refine .inr (.inr ⟨⟨_,List.mem_cons_self,rfl⟩,by show ZcI wh y (ck+1) v<ZcI wh y (ck+1) y;rw [ZH,hw v hvs];have:=(h.vis v).2;omega,fun p hp=>?_⟩)
         show ¬ (ZcI wh y (ck+1) v<ZcI wh y (ck+1) p.1∧ZcI wh y (ck+1) p.1<ZcI wh y (ck+1) y)
         rcases List.mem_cons.1 hp with rfl | hp
         · exact fun h9=>absurd h9.2 (Int.lt_irrefl _)
         · rw [hw v hvs,hw _ (hon p hp)]
           obtain ⟨p',hp',e2⟩:=hfs p hp
           have:=ht2 p' hp'
           rw [e2] at this
           omega
       · rcases h.arcs (v,x :: next) (by simp) y hy (by simp at hn ⊢;exact ⟨e,hn⟩) with h1 | ⟨h1,h2⟩ | ⟨⟨q,hq,e2⟩,h2,_⟩
         · exact .inl ((hd y).2 h1)
         · exact .inr (.inl ⟨by simp [h1],by show ZcI lo x (ck+1) v≤_;rw [hl v hvs,hw y h1];exact h2⟩)
         · have:=ht2 q hq
           rw [e2] at this
           have h2:wh v<wh y:=h2
           omega
     · have hrs:=h.onst r (by simp [hr])
       rcases h.arcs r (by simp [hr]) y hy hn with h1 | ⟨h1,h2⟩ | h3
       · exact .inl ((hd y).2 h1)
       · exact .inr (.inl ⟨by simp [h1],by rw [hl _ hrs,hw y h1];exact h2⟩)
       · obtain ⟨⟨q,hq,e⟩,_⟩:=id h3
         exact .inr (.inr (hnx r (by simp [hr]) y (e ▸ h.onst q hq) h3))
 · have hux:u≠x:=fun e=>hp (x,adj x) (by simp) e.symm
   have hu:=(List.mem_cons.1 hu).resolve_left hux
   rcases List.mem_cons.1 hr with rfl | hr
   · have hlt:ZcI wh x (ck+1) x<ZcI wh x (ck+1) u:=hlt
     rw [ZH,hw u hu] at hlt
     have:=(h.vis u).2;omega
   · have hrs:=hon r hr
     rw [hl _ hrs,hl u hu]
     rw [hw _ hrs,hw u hu] at hlt
     obtain ⟨r',hr',e⟩:=hfs r hr
     rw [← e] at hlt ⊢
     refine h.lows r' hr' u hu (fun p hp2=>?_) hlt fun p hp2=>?_
     · obtain ⟨q,hq,e3⟩:=hfs2 p hp2
       rw [← e3];exact hp q (List.mem_cons_of_mem _ hq)
     · obtain ⟨q,hq,e3⟩:=hfs2 p hp2
       have:=hb q (List.mem_cons_of_mem _ hq)
       rw [hw _ hrs,hw u hu,hw _ (hon q hq),e3,← e] at this
       exact this
 · rcases List.mem_cons.1 hr with rfl | hr
   · rcases List.mem_cons.1 hu with rfl | hu
     · exact .inl rfl
     · have hle:ZcI wh x (ck+1) x≤ZcI wh x (ck+1) u:=hle
       rw [ZH,hw u hu] at hle
       have:=(h.vis u).2;omega
   · obtain ⟨r',hr',e⟩:=hfs r hr
     rcases List.mem_cons.1 hu with rfl | hu
     · refine .inr ?_
       have hvx:Rch (EJ adj) v u:=.one hxv
       rw [← e]
       rcases h.reach r' hr' v hvs (ht2 r' hr') with h9 | h9
       · rw [← h9];exact hvx
       · exact h9.trans hvx
     · rw [hw _ (hon r hr),hw u hu,← e] at hle
       rw [← e];exact h.reach r' hr' u hu hle
 · have hlast:∀ r,((v,x :: next) :: rest).getLast? = some r → ∃ r',((x,adj x) :: (v,next) :: rest).getLast? = some r' ∧ r'.1=r.1:=fun r hr=>by
     cases rest with
     | nil => exact ⟨(v, next), rfl, by have : (v, x :: next) = r := by simpa using hr
                                        rw [← this]⟩
     | cons y l=>exact ⟨r,by simpa using hr,rfl⟩
   obtain ⟨r,h1,h2⟩:=h.root v hvs
   obtain ⟨r',h3,h4⟩:=hlast r h1
   refine ⟨r',h3,?_⟩
   have hrs:r'.1 ∈ st:=by rw [h4];exact h.onst r (List.mem_of_getLast? h1)
   rw [hw _ hrs]
   rcases List.mem_cons.1 hu with rfl | hu
   · rw [ZH];have:=(h.vis r'.1).2;omega
   · rw [hw u hu,h4]
     obtain ⟨r2,h5,h6⟩:=h.root u hu
     rw [h1] at h5
     rw [Option.some.inj h5];exact h6
theorem Tj.pass {c:Int} (h:Tj adj wh lo out ck st ((v,x :: next) :: rest)) (hc:(ZbD wh st x∧c=lo v)∨(x ∈ st∧c=min (lo v) (wh x))):Tj adj wh (ZcI lo v c) out ck st ((v,next) :: rest):=by
 have hvs:v ∈ st:=h.onst (v,x :: next) (by simp)
 have hxv:x ∈ adj v:=h.sub (v,x :: next) (by simp) x (by simp)
 obtain ⟨ht1,ht2⟩:=h.top
 have hcl:c≤lo v:=by rcases hc with ⟨_,h1⟩ | ⟨_,h1⟩ <;> omega
 have hfs:∀ p ∈ (v,next) :: rest,∃ q ∈ (v,x :: next) :: rest,q.1=p.1:=fun p hp=>by
   rcases List.mem_cons.1 hp with rfl | hp
   · exact ⟨_,List.mem_cons_self,rfl⟩
   · exact ⟨p,by simp [hp],rfl⟩
 have hfs2:∀ p ∈ (v,x :: next) :: rest,∃ q ∈ (v,next) :: rest,q.1=p.1:=fun p hp=>by
   rcases List.mem_cons.1 hp with rfl | hp
   · exact ⟨_,List.mem_cons_self,rfl⟩
   · exact ⟨p,by simp [hp],rfl⟩
 have hnx:∀ a y,NxT wh ((v,x :: next) :: rest) a y→NxT wh ((v,next) :: rest) a y:=fun a y ⟨⟨q,hq,e⟩,h2,h3⟩=>by
   obtain ⟨q',hq',e'⟩:=hfs2 q hq
   refine ⟨⟨q',hq',e'.trans e⟩,h2,fun p hp=>?_⟩
   obtain ⟨p',hp',e2⟩:=hfs p hp
   rw [← e2];exact h3 p' hp'
 have hrv:∀ r ∈ rest,r.1≠v:=fun r hr e=>by have:=ht1 r hr;rw [e] at this;omega
 refine ⟨h.pos,h.dec,h.vis,fun u hu=>?_,fun u hu hp=>?_,h.done,fun r hr=>?_,fun r hr y hy=>?_,List.pairwise_cons.2 (List.pairwise_cons.1 h.wdec),fun r hr y hy hn=>?_,fun r hr u hu hp hlt hb=>?_,fun r hr u hu hle=>?_,fun u hu=>?_⟩
 · by_cases e:u=v
   · subst e
     rw [ZH]
     obtain ⟨h1,w,hws,h2,h3⟩:=h.low u hu
     refine ⟨by omega,?_⟩
     rcases hc with ⟨_,h4⟩ | ⟨h5,h4⟩
     · exact ⟨w,hws,by omega,h3⟩
     · by_cases h6:lo u≤wh x
       · exact ⟨w,hws,by omega,h3⟩
       · exact ⟨x,h5,by omega,.inr (.one hxv)⟩
   · rw [Zap e];exact h.low u hu
 · have huv:u≠v:=fun e=>hp (v,next) (by simp) e.symm
   rw [Zap huv]
   exact h.fin u hu fun p hp2=>by
     obtain ⟨q,hq,e⟩:=hfs2 p hp2
     rw [← e];exact hp q hq
 · obtain ⟨q,hq,e⟩:=hfs r hr
   rw [← e];exact h.onst q hq
 · rcases List.mem_cons.1 hr with rfl | hr
   · exact h.sub (v,x :: next) (by simp) y (by simp at hy ⊢;exact .inr hy)
   · exact h.sub r (by simp [hr]) y hy
 · rcases List.mem_cons.1 hr with rfl | hr
   · show ZbD wh st y∨(y ∈ st∧ZcI lo v c v≤wh y)∨_
     rw [ZH]
     by_cases e:y=x
     · subst e
       rcases hc with ⟨h1,_⟩ | ⟨h1,h2⟩
       · exact .inl h1
       · exact .inr (.inl ⟨h1,by omega⟩)
     · rcases h.arcs (v,x :: next) (by simp) y hy (by simp at hn ⊢;exact ⟨e,hn⟩) with h1 | ⟨h1,h2⟩ | h3
       · exact .inl h1
       · have h2:lo v≤wh y:=h2
         exact .inr (.inl ⟨h1,by omega⟩)
       · exact .inr (.inr (hnx _ _ h3))
   · rw [Zap (hrv r hr)]
     rcases h.arcs r (by simp [hr]) y hy hn with h1 | h1 | h3
     · exact .inl h1
     · exact .inr (.inl h1)
     · exact .inr (.inr (hnx _ _ h3))
 · have huv:u≠v:=fun e=>hp (v,next) (by simp) e.symm
   rw [Zap huv]
   obtain ⟨r',hr',e⟩:=hfs r hr
   have h9:=h.lows r' hr' u hu (fun p hp2=>by
     obtain ⟨q,hq,e3⟩:=hfs2 p hp2
     rw [← e3];exact hp q hq) (by rw [e];exact hlt) fun p hp2=>by
     obtain ⟨q,hq,e3⟩:=hfs2 p hp2
     have:=hb q hq
     rwa [e3,← e] at this
   rw [e] at h9
   by_cases e2:r.1=v
   · rw [e2] at h9 ⊢;rw [ZH];omega
   · rw [Zap e2];exact h9
 · obtain ⟨r',hr',e⟩:=hfs r hr
   rw [← e] at hle ⊢
   exact h.reach r' hr' u hu hle
 · obtain ⟨r,h1,h2⟩:=h.root u hu
   cases rest with
   | nil=>simp at h1;exact ⟨(v,next),rfl,by rw [← h1] at h2;exact h2⟩
   | cons y l=>simp at h1;exact ⟨r,by simp [h1],h2⟩
theorem Tj.above {u0:Int} {nx:List Int} (h:Tj adj wh lo out ck st ((v,next) :: (u0,nx) :: rest)):wh u0<wh v∧(∀ r ∈ rest,wh r.1<wh u0):=by
 have h1:=List.pairwise_cons.1 h.wdec
 exact ⟨h1.1 (u0,nx) (by simp),(List.pairwise_cons.1 h1.2).1⟩
theorem Tj.stay {u0:Int} {nx:List Int} (h:Tj adj wh lo out ck st ((v,[]) :: (u0,nx) :: rest)) (hlo:lo v≠wh v):Tj adj wh (ZcI lo u0 (min (lo u0) (lo v))) out ck st ((u0,nx) :: rest):=by
 obtain ⟨a1,a2⟩:=h.above
 obtain ⟨ht1,ht2⟩:=h.top
 have hvs:v ∈ st:=h.onst (v,[]) (by simp)
 have hus:u0 ∈ st:=h.onst (u0,nx) (by simp)
 have hvu:v≠u0:=fun e=>by rw [e] at a1;omega
 have hr0:∀ r ∈ rest,r.1≠u0:=fun r hr e=>by have:=a2 r hr;rw [e] at this;omega
 have hlv:=h.low v hvs
 refine ⟨h.pos,h.dec,h.vis,fun u hu=>?_,fun u hu hp=>?_,h.done,fun r hr=>h.onst r (List.mem_cons_of_mem _ hr),fun r hr=>h.sub r (List.mem_cons_of_mem _ hr),(List.pairwise_cons.1 h.wdec).2,fun r hr y hy hn=>?_,fun r hr u hu hp hlt hb=>?_,fun r hr=>h.reach r (List.mem_cons_of_mem _ hr),fun u hu=>?_⟩
 · by_cases e:u=u0
   · subst e
     rw [ZH]
     obtain ⟨h1,w,hws,h2,h3⟩:=h.low u hu
     refine ⟨by omega,?_⟩
     by_cases h4:lo u≤lo v
     · exact ⟨w,hws,by omega,h3⟩
     · obtain ⟨h5,w2,hw2,h6,h7⟩:=hlv
       refine ⟨w2,hw2,by omega,.inr ?_⟩
       have h8:=(h.reach (u,nx) (by simp) v hvs (Int.le_of_lt a1)).resolve_left hvu
       rcases h7 with rfl | h7
       · exact h8
       · exact h8.trans h7
   · rw [Zap e];exact h.low u hu
 · have hu0:u≠u0:=fun e=>hp (u0,nx) (by simp) e.symm
   rw [Zap hu0]
   by_cases e:u=v
   · subst e
     refine ⟨by have:=hlv.1;omega,fun y hy=>?_⟩
     rcases h.arcs (u,[]) (by simp) y hy (by simp) with h1 | h1 | ⟨⟨q,hq,e2⟩,h2,_⟩
     · exact .inl h1
     · exact .inr h1
     · have:=ht2 q hq
       rw [e2] at this
       have h2:wh u<wh y:=h2
       omega
   · refine h.fin u hu fun p hp2=>?_
     rcases List.mem_cons.1 hp2 with rfl | hp2
     · exact fun e2=>e e2.symm
     · exact hp p hp2
 · rcases List.mem_cons.1 hr with rfl | hr2
   · show ZbD wh st y∨(y ∈ st∧ZcI lo u0 _ u0≤wh y)∨_
     rw [ZH]
     rcases h.arcs (u0,nx) (by simp) y hy hn with h1 | ⟨h1,h2⟩ | ⟨⟨q,hq,e2⟩,h2,h3⟩
     · exact .inl h1
     · have h2:lo u0≤wh y:=h2
       exact .inr (.inl ⟨h1,by omega⟩)
     · have h2:wh u0<wh y:=h2
       have h4:¬ (wh u0<wh v∧wh v<wh y):=h3 (v,[]) (by simp)
       have hy2:y=v:=by
         rcases List.mem_cons.1 hq with rfl | hq
         · exact e2.symm
         · rcases List.mem_cons.1 hq with rfl | hq
           · have e2:u0=y:=e2
             rw [← e2] at h2;omega
           · have:=a2 q hq
             rw [e2] at this;omega
       subst hy2
       exact .inr (.inl ⟨hvs,by have:=hlv.1;omega⟩)
   · rw [Zap (hr0 r hr2)]
     rcases h.arcs r (by simp [hr2]) y hy hn with h1 | h1 | ⟨⟨q,hq,e2⟩,h2,h3⟩
     · exact .inl h1
     · exact .inr (.inl h1)
     · refine .inr (.inr ⟨?_,h2,fun p hp=>h3 p (List.mem_cons_of_mem _ hp)⟩)
       rcases List.mem_cons.1 hq with rfl | hq
       · have e2:v=y:=e2
         have h4:¬ (wh r.1<wh u0∧wh u0<wh y):=h3 (u0,nx) (by simp)
         exact absurd ⟨a2 r hr2,by rw [← e2];exact a1⟩ h4
       · exact ⟨q,hq,e2⟩
 · have hu0:u≠u0:=fun e=>hp (u0,nx) (by simp) e.symm
   rw [Zap hu0]
   rcases List.mem_cons.1 hr with rfl | hr2
   · show ZcI lo u0 _ u0≤lo u
     rw [ZH]
     by_cases e:u=v
     · subst e;omega
     · have hp2:∀ p ∈ (v,[]) :: (u0,nx) :: rest,p.1≠u:=fun p hp3=>by
         rcases List.mem_cons.1 hp3 with rfl | hp3
         · exact fun e2=>e e2.symm
         · exact hp p hp3
       rcases Int.lt_or_le (wh u) (wh v) with h1 | h1
       · have:=h.lows (u0,nx) (by simp) u hu hp2 hlt fun p hp3=>by
           rcases List.mem_cons.1 hp3 with rfl | hp3
           · exact fun h9=>by have h9:wh v<wh u:=h9.2;omega
           · exact hb p hp3
         have this:lo u0≤lo u:=this
         omega
       · have h2:wh v<wh u:=by
           rcases Int.lt_or_eq_of_le h1 with h2 | h2
           · exact h2
           · exact absurd (Zm5 h.dec hu hvs h2.symm) e
         have:=h.lows (v,[]) (by simp) u hu hp2 h2 fun p hp3 h9=>by
           have h10:=ht2 p hp3
           have h9:wh v<wh p.1:=h9.1
           omega
         have this:lo v≤lo u:=this
         omega
   · rw [Zap (hr0 r hr2)]
     have h1:wh u<wh u0:=by
       have h2:¬ (wh r.1<wh u0∧wh u0<wh u):=hb (u0,nx) (by simp)
       have h3:=a2 r hr2
       rcases Int.lt_or_le (wh u) (wh u0) with h4 | h4
       · exact h4
       · have h5:wh u=wh u0:=by omega
         exact absurd (Zm5 h.dec hu hus h5) hu0
     refine h.lows r (by simp [hr2]) u hu (fun p hp3=>?_) hlt fun p hp3=>?_
     · rcases List.mem_cons.1 hp3 with rfl | hp3
       · exact fun e2=>by have e2:v=u:=e2;rw [e2] at a1;omega
       · exact hp p hp3
     · rcases List.mem_cons.1 hp3 with rfl | hp3
       · exact fun h9=>by have h9:wh v<wh u:=h9.2;omega
       · exact hb p hp3
 · obtain ⟨r,h1,h2⟩:=h.root u hu
   exact ⟨r,by simpa using h1,h2⟩
theorem Tj.part {A B:List Int} {m:Int} (h:Tj adj wh lo out ck (A++v :: B) ((v,[]) :: rest)) (hlo:lo v=wh v) (hm:m ∈ A ++ [v]) (hmin:∀ x ∈ A ++ [v],m≤x) :
   Tj adj wh lo (fun u=>if u ∈ A ++ [v] then m else out u) ck B rest:=by
 obtain ⟨ht1,ht2⟩:=h.top
 have hdec:=List.pairwise_append.1 h.dec
 have hdB:=List.pairwise_cons.1 hdec.2.1
 have hP:∀ u ∈ A ++ [v],wh v≤wh u∧u ∈ A++v :: B:=fun u hu=>by
   rcases List.mem_append.1 hu with h1 | h1
   · exact ⟨Int.le_of_lt (hdec.2.2 u h1 v (by simp)),by simp [h1]⟩
   · obtain rfl:=List.mem_singleton.1 h1
     exact ⟨Int.le_refl _,by simp⟩
 have hB:∀ u ∈ B,wh u<wh v∧u ∈ A++v :: B:=fun u hu=>⟨hdB.1 u hu,by simp [hu]⟩
 have hsplit:∀ u ∈ A++v :: B,u ∈ A ++ [v]∨u ∈ B:=fun u hu=>by
   rcases List.mem_append.1 hu with h1 | h1
   · exact .inl (List.mem_append.2 (.inl h1))
   · rcases List.mem_cons.1 h1 with h1 | h1
     · exact .inl (by simp [h1])
     · exact .inr h1
 have hvs:v ∈ A++v :: B:=by simp
 have hPt:∀ u ∈ A ++ [v],u≠v → ∀ p ∈ (v,[]) :: rest,p.1≠u:=fun u hu hne p hp e=>by
   rcases List.mem_cons.1 hp with rfl | hp
   · exact hne e.symm
   · have h1:=ht1 p hp
     rw [e] at h1
     have:=(hP u hu).1
     omega
 have hno:∀ u ∈ A ++ [v],wh v<wh u → ∀ p ∈ (v,[]) :: rest,¬ (wh v<wh p.1∧wh p.1<wh u):=fun u hu _ p hp h9=>by
   have:=ht2 p hp
   omega
 have hlow:∀ u ∈ A ++ [v],wh v≤lo u:=fun u hu=>by
   by_cases e:u=v
   · rw [e,hlo];exact Int.le_refl _
   · have h1:wh v<wh u:=by
       rcases Int.lt_or_eq_of_le (hP u hu).1 with h1 | h1
       · exact h1
       · exact absurd (Zm5 h.dec (hP u hu).2 hvs h1.symm) e
     have:=h.lows (v,[]) (by simp) u (hP u hu).2 (hPt u hu e) h1 (hno u hu h1)
     rw [← hlo];exact this
 have hback:∀ (k:Nat) (u:Int),u ∈ A ++ [v]→(wh u).toNat=k→u=v∨Rch (EJ adj) u v:=by
   intro k
   induction k using Nat.strongRecOn with
   | _ k ih=>
     intro u hu hk
     by_cases e:u=v
     · exact .inl e
     · refine .inr ?_
       have h1:=(h.fin u (hP u hu).2 (hPt u hu e)).1
       obtain ⟨_,w,hws,h2,h3⟩:=h.low u (hP u hu).2
       have h4:=hlow u hu
       have hwP:w ∈ A ++ [v]:=(hsplit w hws).resolve_right fun h9=>by have:=(hB w h9).1;omega
       have h5:Rch (EJ adj) u w:=h3.resolve_left fun e2=>by rw [e2] at h2;omega
       have h6:=h.pos w hws
       rcases ih (wh w).toNat (by omega) w hwP rfl with h7 | h7
       · rw [← h7];exact h5
       · exact h5.trans h7
 have hfwd:∀ u ∈ A ++ [v],u=v∨Rch (EJ adj) v u:=fun u hu=>h.reach (v,[]) (by simp) u (hP u hu).2 (hP u hu).1
 have hcl:∀ u ∈ A ++ [v],∀ y ∈ adj u,ZbD wh (A++v :: B) y∨y ∈ A ++ [v]:=fun u hu y hy=>by
   have key:ZbD wh (A++v :: B) y∨(y ∈ A++v :: B∧wh v≤wh y):=by
     by_cases e:u=v
     · rw [e] at hy
       rcases h.arcs (v,[]) (by simp) y hy (by simp) with h1 | ⟨h1,h2⟩ | ⟨⟨q,hq,e2⟩,h2,_⟩
       · exact .inl h1
       · exact .inr ⟨h1,by have h2:lo v≤wh y:=h2;omega⟩
       · have h3:=ht2 q hq
         rw [e2] at h3
         have h2:wh v<wh y:=h2
         omega
     · rcases (h.fin u (hP u hu).2 (hPt u hu e)).2 y hy with h1 | ⟨h1,h2⟩
       · exact .inl h1
       · exact .inr ⟨h1,by have:=hlow u hu;omega⟩
   rcases key with h1 | ⟨h1,h2⟩
   · exact .inl h1
   · exact .inr ((hsplit y h1).resolve_right fun h9=>by have:=(hB y h9).1;omega)
 have hdr:∀ {d y:Int},ZbD wh (A++v :: B) d→Rch (EJ adj) d y→ZbD wh (A++v :: B) y:=fun {d y} hd hr=>by
   induction hr with
   | one k=>exact (h.done _ hd).1 _ k
   | step _ k ih=>exact (h.done _ ih).1 _ k
 have hCr:∀ {u y:Int},u ∈ A ++ [v]→Rch (EJ adj) u y→ZbD wh (A++v :: B) y∨y ∈ A ++ [v]:=fun {u y} hu hr=>by
   induction hr with
   | one k=>exact hcl _ hu _ k
   | step _ k ih=>
     rcases ih with h1 | h1
     · exact .inl ((h.done _ h1).1 _ k)
     · exact hcl _ h1 _ k
 have hmut:∀ u ∈ A ++ [v],∀ x,Zk8 adj u x ↔ x ∈ A ++ [v]:=fun u hu x=>by
   constructor
   · rintro (rfl | ⟨h1,h2⟩)
     · exact hu
     · rcases hCr hu h1 with h3 | h3
       · exact absurd (hP u hu).2 (hdr h3 h2).2
       · exact h3
   · intro hx
     by_cases e:x=u
     · exact .inl e
     · refine .inr ?_
       have key:∀ a ∈ A ++ [v],∀ b ∈ A ++ [v],b≠a→Rch (EJ adj) a b:=fun a ha b hb hne=>by
         rcases hback _ a ha rfl with h1 | h1 <;> rcases hfwd b hb with h2 | h2
         · exact absurd (h2.trans h1.symm) hne
         · rw [h1];exact h2
         · rw [h2];exact h1
         · exact h1.trans h2
       exact ⟨key u hu x hx e,key x hx u hu fun e2=>e e2.symm⟩
 have hlab:∀ u ∈ A ++ [v],Zl6 adj u m:=fun u hu=>⟨(hmut u hu m).2 hm,fun x hx=>hmin x ((hmut u hu x).1 hx)⟩
 have hdn:∀ d,ZbD wh B d ↔ ZbD wh (A++v :: B) d∨d ∈ A ++ [v]:=fun d=>by
   constructor
   · rintro ⟨h1,h2⟩
     by_cases h3:d ∈ A++v :: B
     · exact .inr ((hsplit d h3).resolve_right h2)
     · exact .inl ⟨h1,h3⟩
   · rintro (⟨h1,h2⟩ | h1)
     · exact ⟨h1,fun h3=>h2 (hB d h3).2⟩
     · refine ⟨by have:=h.pos d (hP d h1).2;omega,fun h3=>?_⟩
       have:=(hB d h3).1
       have:=(hP d h1).1
       omega
 have hrB:∀ r ∈ rest,r.1 ∈ B:=fun r hr=>(hsplit r.1 (h.onst r (by simp [hr]))).resolve_left fun h9=>by
   have:=(hP _ h9).1
   have:=ht1 r hr
   omega
 refine ⟨fun u hu=>h.pos u (hB u hu).2,hdB.2,h.vis,fun u hu=>?_,fun u hu hp=>?_,fun d hd=>?_,hrB,fun r hr=>h.sub r (List.mem_cons_of_mem _ hr),(List.pairwise_cons.1 h.wdec).2,fun r hr y hy hn=>?_,fun r hr u hu hp hlt hb=>?_,fun r hr u hu hle=>h.reach r (List.mem_cons_of_mem _ hr) u (hB u hu).2 hle,fun u hu=>?_⟩
 · obtain ⟨h1,w,hws,h2,h3⟩:=h.low u (hB u hu).2
   refine ⟨h1,w,(hsplit w hws).resolve_left fun h9=>?_,h2,h3⟩
   have:=(hP w h9).1
   have:=(hB u hu).1
   omega
 · have huv:u≠v:=fun e=>by have:=(hB u hu).1;rw [e] at this;omega
   obtain ⟨h1,h2⟩:=h.fin u (hB u hu).2 fun p hp2=>by
     rcases List.mem_cons.1 hp2 with rfl | hp2
     · exact fun e=>huv e.symm
     · exact hp p hp2
   refine ⟨h1,fun y hy=>?_⟩
   rcases h2 y hy with h3 | ⟨h3,h4⟩
   · exact .inl ((hdn y).2 (.inl h3))
   · rcases hsplit y h3 with h5 | h5
     · exact .inl ((hdn y).2 (.inr h5))
     · exact .inr ⟨h5,h4⟩
 · rcases (hdn d).1 hd with h1 | h1
   · have hnp:d ∉ A ++ [v]:=fun h9=>h1.2 (hP d h9).2
     obtain ⟨h2,h3⟩:=h.done d h1
     refine ⟨fun y hy=>(hdn y).2 (.inl (h2 y hy)),?_⟩
     show Zl6 adj d (if d ∈ A ++ [v] then m else out d)
     rw [if_neg hnp];exact h3
   · refine ⟨fun y hy=>(hdn y).2 (hcl d h1 y hy),?_⟩
     show Zl6 adj d (if d ∈ A ++ [v] then m else out d)
     rw [if_pos h1];exact hlab d h1
 · rcases h.arcs r (by simp [hr]) y hy hn with h1 | ⟨h1,h2⟩ | ⟨⟨q,hq,e2⟩,h2,h3⟩
   · exact .inl ((hdn y).2 (.inl h1))
   · rcases hsplit y h1 with h5 | h5
     · exact .inl ((hdn y).2 (.inr h5))
     · exact .inr (.inl ⟨h5,h2⟩)
   · rcases List.mem_cons.1 hq with rfl | hq
     · have e2:v=y:=e2
       exact .inl ((hdn y).2 (.inr (by rw [← e2];simp)))
     · exact .inr (.inr ⟨⟨q,hq,e2⟩,h2,fun p hp=>h3 p (List.mem_cons_of_mem _ hp)⟩)
 · refine h.lows r (by simp [hr]) u (hB u hu).2 (fun p hp2=>?_) hlt fun p hp2=>?_
   · rcases List.mem_cons.1 hp2 with rfl | hp2
     · exact fun e=>by have e:v=u:=e;have:=(hB u hu).1;rw [e] at this;omega
     · exact hp p hp2
   · rcases List.mem_cons.1 hp2 with rfl | hp2
     · exact fun h9=>by have h9:wh v<wh u:=h9.2;have:=(hB u hu).1;omega
     · exact hb p hp2
 · obtain ⟨r,h1,h2⟩:=h.root u (hB u hu).2
   cases rest with
   | nil=>simp at h1;rw [← h1] at h2;have:=(hB u hu).1;have h2:wh v≤wh u:=h2;omega
   | cons y l=>exact ⟨r,by simpa using h1,h2⟩
end
structure Za4 where
 wh:List Int
 lo:List Int
 wait:List Int
 inn:List Int
 ck:Int
 out:List Int
def fI (l:List Int):Int→Int:=fun x=>if 0≤x then Go.Gm.nth l x.toNat else 0
theorem Zb9 {l:List Int} {x:Int} (h:0≤x):fI l x=Go.Gm.nth l x.toNat:=if_pos h
theorem Zlq {l:List Int} {i j:Nat} {c:Int} (hi:i<l.length):Go.Gm.nth (l.set i c) j=if j=i then c else Go.Gm.nth l j:=by
 by_cases hj:j<l.length
 · rw [nth_eq (by simpa using hj),List.getElem_set,nth_eq hj]
   by_cases e:j=i
   · rw [if_pos e,if_pos e.symm]
   · rw [if_neg e,if_neg fun h=>e h.symm]
 · rw [if_neg (by omega)]
   have e1:∀ (m:List Int),m.length≤j→Go.Gm.nth m j=(default:Int):=fun m hm=>by
     unfold Go.Gm.nth
     simp [List.getD_eq_getElem?_getD,hm]
   rw [e1 _ (by simp;omega),e1 _ (by omega)]
theorem Zd8 {l:List Int} {x c:Int} (h:0≤x∧x<l.length):fI (l.set x.toNat c)=ZcI (fI l) x c:=by
 funext y
 show (if 0≤y then Go.Gm.nth (l.set x.toNat c) y.toNat else 0)=if y=x then c else (if 0≤y then Go.Gm.nth l y.toNat else 0)
 by_cases hy:0≤y
 · rw [if_pos hy,if_pos hy,Zlq (by omega)]
   by_cases e:y=x
   · rw [if_pos e,if_pos (by rw [e])]
   · rw [if_neg e,if_neg (by omega)]
 · rw [if_neg hy,if_neg hy,if_neg (by omega)]
def Zla (n:Nat) (wh:List Int):List Nat:=(List.range n).filter fun i=>decide (Go.Gm.nth wh i=0)
def muW (way:ZkY):Nat:=(way.map fun r=>r.2.length+1).sum
def muU (n:Nat) (adj:Int→List Int) (wh:List Int):Nat:=((Zla n wh).map fun i:Nat=>(adj (i:Int)).length+2).sum
structure TI (n:Nat) (adj:Int→List Int) (s:Za4) (way:ZkY):Prop where
 tj:Tj adj (fI s.wh) (fI s.lo) (fI s.out) s.ck s.wait.reverse way.reverse
 lw:s.wh.length=n
 ll:s.lo.length=n
 lout:s.out.length=n
 rng:∀ u ∈ s.wait,0≤u∧u<n
 up:Up n s.inn
 mem:∀ u,u ∈ s.inn ↔ u ∈ s.wait
 cnt:s.ck+(Zla n s.wh).length=n
def Za6 (n:Nat) (s:Za4) (x:Int):Za4:=⟨s.wh.set x.toNat (s.ck+1),s.lo.set x.toNat (s.ck+1),s.wait ++ [x],putL s.inn n x true,s.ck+1,s.out⟩
theorem ZjW {n:Nat} {wh:List Int} {x c:Int} (hl:wh.length=n) (hx:0≤x∧x<n) (h0:Go.Gm.nth wh x.toNat=0) (hc:c≠0) (f:Nat→Nat) :
   ((Zla n (wh.set x.toNat c)).map f).sum+f x.toNat=((Zla n wh).map f).sum:=by
 have hlt:x.toNat<n:=by omega
 have e:Zla n (wh.set x.toNat c)=(Zla n wh).erase x.toNat:=by
   have hn:(Zla n wh).Nodup:=(List.nodup_range).filter _
   rw [hn.erase_eq_filter]
   unfold Zla
   rw [List.filter_filter]
   refine List.filter_congr fun i hi=>?_
   rw [Zlq (by omega)]
   by_cases e:i=x.toNat
   · rw [if_pos e];simp [e,hc]
   · rw [if_neg e];simp [e]
 have hm:x.toNat ∈ Zla n wh:=List.mem_filter.2 ⟨List.mem_range.2 hlt,by simpa using h0⟩
 rw [e]
 have hp:=(List.perm_cons_erase hm).map f
 have:=hp.sum_nat
 rw [this,List.map_cons,List.sum_cons,Nat.add_comm]
theorem Zgl {n:Nat} {l:List Int} {i j:Int} {on:Bool} (hi:0≤i∧i<n):j ∈ putL l n i on ↔ (j≠i∧j ∈ l)∨(j=i∧on=true):=by
 have e:(!on || decide (i<0) || decide ((n:Int)≤i)) = !on:=by
   rw [decide_eq_false (by omega),decide_eq_false (by omega),Bool.or_false,Bool.or_false]
 unfold putL
 rw [Zc8,e]
 simp
theorem Zj0 {n:Nat} {l:List Int} {i:Int} {on:Bool} (h:Up n l) (hi:0≤i∧i<n):Up n (putL l n i on):=by
 refine ⟨?_,fun j hj=>?_⟩
 · unfold putL;exact ZiB _ _ _ h.1
 · rcases (Zgl hi).1 hj with h1 | h1
   · exact h.2 j h1.2
   · rw [h1.1];exact hi
section
variable {n:Nat} {adj:Int→List Int} {s:Za4} {way:ZkY} {v x:Int} {next:List Int}
theorem TI.zero (n:Nat) (adj:Int→List Int):TI n adj ⟨List.replicate n 0,List.replicate n 0,[],[],0,List.replicate n 0⟩ []:=by
 have e:fI (List.replicate n 0)=fun _=>0:=by
   funext y
   unfold fI
   split
   · by_cases h:y.toNat<n
     · rw [nth_eq (by simpa using h)];simp
     · unfold Go.Gm.nth;simp [List.getD_eq_getElem?_getD,show n≤y.toNat by omega]
   · rfl
 have hu:Zla n (List.replicate n 0)=List.range n:=List.filter_eq_self.2 fun i hi=>by
   rw [nth_eq (by simpa using hi)];simp
 refine ⟨?_,by simp,by simp,by simp,by simp,⟨.nil,by simp⟩,by simp,?_⟩
 · show Tj adj (fI (List.replicate n 0)) _ _ 0 [] []
   rw [e];exact Tj.zero
 · show (0:Int)+((Zla n (List.replicate n 0)).length:Int)=n
   rw [hu];simp
theorem TI.unv (h:TI n adj s way) {u:Int} (hu:fI s.wh u=0):u ∉ s.wait:=fun hm=>by
 have:=h.tj.pos u (List.mem_reverse.2 hm)
 omega
theorem Zgo (hx:0≤x∧x<n) (h:TI n adj s way) (h0:fI s.wh x=0):(Za6 n s x).ck+(Zla n (Za6 n s x).wh).length=n∧muU n adj (Za6 n s x).wh+((adj x).length+2)=muU n adj s.wh:=by
 rw [Zb9 hx.1] at h0
 have hc:s.ck+1≠0:=by have:=(h.tj.vis x);omega
 have h1:=ZjW h.lw hx h0 hc (fun _=>1)
 have h2:=ZjW h.lw hx h0 hc (fun i:Nat=>(adj (i:Int)).length+2)
 have e:∀ l:List Nat,(l.map fun _=>1).sum=l.length:=fun l=>by
   induction l with
   | nil=>rfl
   | cons y l ih=>rw [List.map_cons,List.sum_cons,ih,List.length_cons];omega
 rw [e,e] at h1
 have hx2:((x.toNat:Nat):Int)=x:=by omega
 rw [hx2] at h2
 have:=h.cnt
 unfold Za6 muU
 dsimp only
 exact ⟨by omega,h2⟩
theorem ZhY (hx:0≤x∧x<n) (h:TI n adj s way):(∀ u ∈ (Za6 n s x).wait,0≤u∧u<n)∧Up n (Za6 n s x).inn ∧ ∀ u,u ∈ (Za6 n s x).inn ↔ u ∈ (Za6 n s x).wait:=by
 refine ⟨fun u hu=>?_,Zj0 h.up hx,fun u=>?_⟩
 · rcases List.mem_append.1 hu with h1 | h1
   · exact h.rng u h1
   · rw [List.mem_singleton.1 h1];exact hx
 · show u ∈ putL s.inn n x true ↔ u ∈ s.wait ++ [x]
   rw [Zgl hx,h.mem u,List.mem_append,List.mem_singleton]
   by_cases e:u=x
   · simp [e]
   · simp [e]
theorem TI.first (hx:0≤x∧x<n) (h:TI n adj s []) (h0:fI s.wh x=0):TI n adj (Za6 n s x) [(x,adj x)]:=by
 have hw:s.wait = []:=by
   cases hc:s.wait with
   | nil=>rfl
   | cons y l=>
     obtain ⟨r,hr,_⟩:=h.tj.root y (List.mem_reverse.2 (by rw [hc];simp))
     cases hr
 have htj:=h.tj
 rw [hw] at htj
 obtain ⟨r1',r2',r3'⟩:=ZhY hx h
 refine ⟨?_,by simp [Za6,h.lw],by simp [Za6,h.ll],h.lout,r1',r2',r3',(Zgo hx h h0).1⟩
 show Tj adj (fI (s.wh.set _ _)) (fI (s.lo.set _ _)) _ _ (s.wait ++ [x]).reverse _
 rw [hw,Zd8 (by rw [h.lw];exact hx),Zd8 (by rw [h.ll];exact hx)]
 exact htj.first h0
theorem TI.meet (hadj:∀ u y,y ∈ adj u→0≤y∧y<(n:Int)) (h:TI n adj s (way ++ [(v,x :: next)])) (h0:fI s.wh x=0):TI n adj (Za6 n s x) (way ++ [(v,next)] ++ [(x,adj x)]):=by
 have hx:0≤x∧x<n:=hadj v x (h.tj.sub (v,x :: next) (by simp) x (by simp))
 have htj:=h.tj
 rw [List.reverse_append] at htj
 obtain ⟨r1',r2',r3'⟩:=ZhY hx h
 refine ⟨?_,by simp [Za6,h.lw],by simp [Za6,h.ll],h.lout,r1',r2',r3',(Zgo hx h h0).1⟩
 show Tj adj (fI (s.wh.set _ _)) (fI (s.lo.set _ _)) _ _ (s.wait ++ [x]).reverse _
 rw [Zd8 (by rw [h.lw];exact hx),Zd8 (by rw [h.ll];exact hx),List.reverse_append,List.reverse_append,List.reverse_append]
 exact htj.meet h0
theorem TI.wait (hv:0≤v∧v<n) (h:TI n adj s (way ++ [(v,x :: next)])) (hx:x ∈ s.inn):TI n adj { s with lo:=s.lo.set v.toNat (min (fI s.lo v) (fI s.wh x)) } (way ++ [(v,next)]):=by
 have htj:=h.tj
 rw [List.reverse_append] at htj
 refine ⟨?_,h.lw,by simp [h.ll],h.lout,h.rng,h.up,h.mem,h.cnt⟩
 show Tj adj _ (fI (s.lo.set _ _)) _ _ _ _
 rw [Zd8 (by rw [h.ll];exact hv),List.reverse_append]
 exact htj.pass (.inr ⟨List.mem_reverse.2 ((h.mem x).1 hx),rfl⟩)
theorem TI.past (h:TI n adj s (way ++ [(v,x :: next)])) (h0:fI s.wh x≠0) (hx:x ∉ s.inn):TI n adj s (way ++ [(v,next)]):=by
 have htj:=h.tj
 rw [List.reverse_append] at htj
 refine ⟨?_,h.lw,h.ll,h.lout,h.rng,h.up,h.mem,h.cnt⟩
 have h1:=htj.pass (c:=fI s.lo v) (.inl ⟨⟨h0,fun hm=>hx ((h.mem x).2 (List.mem_reverse.1 hm))⟩,rfl⟩)
 have e:ZcI (fI s.lo) v (fI s.lo v)=fI s.lo:=by
   funext y;unfold ZcI;split
   · rename_i e;rw [e]
   · rfl
 rw [e] at h1
 rw [List.reverse_append];exact h1
def partL (wait:List Int) (v:Int):List Int:=(wait.reverse.takeWhile fun y=>decide (y≠v)) ++ [v]
def keepL (wait:List Int) (v:Int):List Int:=((wait.reverse.dropWhile fun y=>decide (y≠v)).drop 1).reverse
theorem ZfM {wait:List Int} {v:Int} (h:v ∈ wait):wait.reverse=(wait.reverse.takeWhile fun y=>decide (y≠v))++v :: (keepL wait v).reverse:=by
 have h1:=List.takeWhile_append_dropWhile (p:=fun y=>decide (y≠v)) (l:=wait.reverse)
 have h2:∃ t,wait.reverse.dropWhile (fun y=>decide (y≠v))=v :: t:=by
   have key:∀ l:List Int,v ∈ l → ∃ t,l.dropWhile (fun y=>decide (y≠v))=v :: t:=by
     intro l
     induction l with
     | nil=>intro h;cases h
     | cons y l ih=>
       intro h
       by_cases e:y=v
       · rw [List.dropWhile_cons_of_neg (by simpa using e),e];exact ⟨l,rfl⟩
       · rw [List.dropWhile_cons_of_pos (by simpa using e)]
         exact ih ((List.mem_cons.1 h).resolve_left fun h9=>e h9.symm)
   exact key _ (List.mem_reverse.2 h)
 obtain ⟨t,h2⟩:=h2
 unfold keepL
 rw [h2] at h1 ⊢
 rw [List.reverse_reverse]
 exact h1.symm
def Zrz (m:Int) (l:List Int):Prop:=m ∈ l ∧ ∀ x ∈ l,m≤x
def outL (part:List Int) (m:Int) (out:List Int):List Int:=part.foldl (fun o y=>o.set y.toNat m) out
def innL (n:Nat) (part:List Int) (inn:List Int):List Int:=part.foldl (fun l y=>putL l n y false) inn
theorem ZgS (m:Int):∀ (part out:List Int),(outL part m out).length=out.length
 | [],out=>rfl
 | y :: part,out=>by
   have:=ZgS m part (out.set y.toNat m)
   rw [List.length_set] at this
   exact this
theorem ZlV (m:Int):∀ (part out:List Int),(∀ y ∈ part,0≤y∧y<out.length)→fI (outL part m out)=fun u=>if u ∈ part then m else fI out u
 | [],out,_=>by funext u;simp [outL]
 | y :: part,out,h=>by
   have h1:=h y (by simp)
   have ih:=ZlV m part (out.set y.toNat m) fun z hz=>by rw [List.length_set];exact h z (by simp [hz])
   have e:outL (y :: part) m out=outL part m (out.set y.toNat m):=rfl
   rw [e,ih,Zd8 h1]
   funext u
   unfold ZcI
   by_cases e1:u ∈ part
   · rw [if_pos e1,if_pos (by simp [e1])]
   · rw [if_neg e1]
     by_cases e2:u=y
     · rw [if_pos e2,if_pos (by simp [e2])]
     · rw [if_neg e2,if_neg (by simp [e1,e2])]
theorem Zmi (n:Nat):∀ (part inn:List Int),(∀ y ∈ part,0≤y∧y<(n:Int))→Up n inn→Up n (innL n part inn) ∧ ∀ u,u ∈ innL n part inn ↔ u ∈ inn∧u ∉ part
 | [],inn,_,hu=>⟨hu,fun u=>by simp [innL]⟩
 | y :: part,inn,h,hu=>by
   have h1:=h y (by simp)
   obtain ⟨i1,i2⟩:=Zmi n part (putL inn n y false) (fun z hz=>h z (by simp [hz])) (Zj0 hu h1)
   have e:innL n (y :: part) inn=innL n part (putL inn n y false):=rfl
   rw [e]
   refine ⟨i1,fun u=>?_⟩
   rw [i2,Zgl h1]
   simp
   constructor
   · rintro ⟨⟨h2,h3⟩,h4⟩;exact ⟨h3,h2,h4⟩
   · rintro ⟨h3,h2,h4⟩;exact ⟨⟨h2,h3⟩,h4⟩
def Znd (n:Nat) (s:Za4) (v m:Int):Za4:={ s with wait:=keepL s.wait v,inn:=innL n (partL s.wait v) s.inn,out:=outL (partL s.wait v) m s.out }
theorem TI.part {m:Int} (h:TI n adj s (way ++ [(v,[])])) (hlo:fI s.lo v=fI s.wh v) (hm:Zrz m (partL s.wait v)):TI n adj (Znd n s v m) way:=by
 have htj:=h.tj
 rw [List.reverse_append] at htj
 have hvw:v ∈ s.wait:=List.mem_reverse.1 (htj.onst (v,[]) (by simp))
 have hsp:=ZfM hvw
 rw [hsp] at htj
 have hpr:∀ y ∈ partL s.wait v,0≤y∧y<(n:Int):=fun y hy=>by
   refine h.rng y (List.mem_reverse.1 ?_)
   rw [hsp]
   unfold partL at hy
   rcases List.mem_append.1 hy with h1 | h1
   · exact List.mem_append_left _ h1
   · rw [List.mem_singleton.1 h1];simp
 have hnew:=htj.part hlo hm.1 hm.2
 obtain ⟨i1,i2⟩:=Zmi n (partL s.wait v) s.inn hpr h.up
 have hsub:∀ u ∈ keepL s.wait v,u ∈ s.wait:=fun u hu=>List.mem_reverse.1 (by rw [hsp];simp [hu])
 refine ⟨?_,h.lw,h.ll,by show (outL _ _ _).length=n;rw [ZgS];exact h.lout,fun u hu=>h.rng u (hsub u hu),i1,fun u=>?_,h.cnt⟩
 · show Tj adj (fI s.wh) (fI s.lo) (fI (outL (partL s.wait v) m s.out)) s.ck (keepL s.wait v).reverse way.reverse
   rw [ZlV m _ _ fun y hy=>by rw [h.lout];exact hpr y hy]
   exact hnew
 · show u ∈ innL n (partL s.wait v) s.inn ↔ u ∈ keepL s.wait v
   rw [i2,h.mem]
   have hd:=htj.dec
   constructor
   · rintro ⟨h1,h2⟩
     have h3:u ∈ s.wait.reverse:=List.mem_reverse.2 h1
     rw [hsp] at h3
     unfold partL at h2
     rcases List.mem_append.1 h3 with h4 | h4
     · exact absurd (List.mem_append_left _ h4) h2
     · rcases List.mem_cons.1 h4 with h4 | h4
       · exact absurd (List.mem_append_right _ (by simp [h4])) h2
       · exact List.mem_reverse.1 h4
   · intro hu
     refine ⟨hsub u hu,fun h2=>?_⟩
     have hur:u ∈ (keepL s.wait v).reverse:=List.mem_reverse.2 hu
     obtain ⟨_,d2,d3⟩:=List.pairwise_append.1 hd
     unfold partL at h2
     rcases List.mem_append.1 h2 with h4 | h4
     · have:=d3 u h4 u (List.mem_cons_of_mem _ hur);omega
     · have:=(List.pairwise_cons.1 d2).1 u hur
       rw [List.mem_singleton.1 h4] at this;omega
theorem TI.stay {u0:Int} {nx:List Int} (hu:0≤u0∧u0<n) (h:TI n adj s (way ++ [(u0,nx)] ++ [(v,[])])) (hlo:fI s.lo v≠fI s.wh v):TI n adj { s with lo:=s.lo.set u0.toNat (min (fI s.lo u0) (fI s.lo v)) } (way ++ [(u0,nx)]):=by
 have htj:=h.tj
 rw [List.reverse_append,List.reverse_append] at htj
 refine ⟨?_,h.lw,by simp [h.ll],h.lout,h.rng,h.up,h.mem,h.cnt⟩
 show Tj adj _ (fI (s.lo.set _ _)) _ _ _ _
 rw [Zd8 (by rw [h.ll];exact hu),List.reverse_append]
 exact htj.stay hlo
theorem TI.root (h:TI n adj s [(v,[])]):fI s.lo v=fI s.wh v:=by
 have hvs:=h.tj.onst (v,[]) (by simp)
 obtain ⟨h1,w,hw,h2,_⟩:=h.tj.low v hvs
 obtain ⟨r,h3,h4⟩:=h.tj.root w hw
 have:r=(v,[]):=by simpa using h3.symm
 rw [this] at h4
 have h4:fI s.wh v≤fI s.wh w:=h4
 omega
theorem TI.same {u0:Int} {nx:List Int} (h:TI n adj s (way ++ [(u0,nx)] ++ [(v,[])])) (hlo:fI s.lo v=fI s.wh v):min (fI s.lo u0) (fI s.lo v)=fI s.lo u0:=by
 have htj:=h.tj
 rw [List.reverse_append,List.reverse_append] at htj
 have h1:=htj.above.1
 have h2:=(htj.low u0 (htj.onst (u0,nx) (by simp))).1
 omega
end
theorem Zrv {P:Int→Prop} (h0:∀ x,P x→0≤x) {u:Int} (hu:P u):∃ m,P m ∧ ∀ x,P x→m≤x:=by
 apply Classical.byContradiction
 intro hn
 have key:∀ k:Nat,∀ x,P x→(k:Int)≤x:=by
   intro k
   induction k with
   | zero=>intro x hx;exact h0 x hx
   | succ k ih=>
     intro x hx
     have h1:=ih x hx
     by_cases e:x=k
     · exact absurd ⟨x,hx,fun y hy=>by have:=ih y hy;omega⟩ hn
     · omega
 have h1:=key (u.toNat+1) u hu
 have h2:=h0 u hu
 omega
theorem Zmg {P:Nat→Int→Prop} : ∀ n:Nat,(∀ u,u<n → ∃ m,P u m) → ∃ L:List Int,L.length=n ∧ ∀ u,u<n→P u (Go.Gm.nth L u)
 | 0,_=>⟨[],rfl,fun u hu=>absurd hu (Nat.not_lt_zero u)⟩
 | n+1,h=>by
   obtain ⟨L,h1,h2⟩:=Zmg n fun u hu=>h u (by omega)
   obtain ⟨m,hm⟩:=h n (by omega)
   refine ⟨L ++ [m],by simp [h1],fun u hu=>?_⟩
   rw [nth_eq (by simp;omega)]
   by_cases e:u<n
   · rw [List.getElem_append_left (by omega),← nth_eq (by omega)];exact h2 u e
   · have e:u=L.length:=by omega
     subst e
     rw [List.getElem_append_right (by omega)];simpa [h1] using hm
def Ziu (adj:Int→List Int) (n:Nat) (L:List Int):Prop:=L.length=n ∧ ∀ u:Nat,u<n→Zl6 adj (u:Int) (Go.Gm.nth L u)
theorem Zoc {E:Int→Int→Prop} {a b:Int} (h:Rch E a b):∃ c,E c b:=by
 cases h with
 | one k=>exact ⟨_,k⟩
 | step _ k=>exact ⟨_,k⟩
theorem ZqZ {adj:Int→List Int} (n:Nat) (hadj:∀ u y,y ∈ adj u→0≤y):∃ L,Ziu adj n L:=by
 refine Zmg n fun u _=>Zrv (P:=Zk8 adj (u:Int)) (fun x hx=>?_) (.inl rfl)
 rcases hx with h | ⟨h,_⟩
 · omega
 · obtain ⟨c,k⟩:=Zoc h;exact hadj c x k
theorem Zl6.one {adj:Int→List Int} {u a b:Int} (h:Zl6 adj u a) (k:Zl6 adj u b):a=b:=Int.le_antisymm (h.2 b k.1) (k.2 a h.1)
theorem Zk8.symm {adj:Int→List Int} {u x:Int} (h:Zk8 adj u x):Zk8 adj x u:=h.elim (fun e=>.inl e.symm) fun e=>.inr ⟨e.2,e.1⟩
theorem Zk8.trans {adj:Int→List Int} {u x y:Int} (h:Zk8 adj u x) (k:Zk8 adj x y):Zk8 adj u y:=by
 rcases h with rfl | ⟨h1,h2⟩
 · exact k
 · rcases k with rfl | ⟨k1,k2⟩
   · exact .inr ⟨h1,h2⟩
   · exact .inr ⟨h1.trans k1,k2.trans h2⟩
theorem Zl6.same {adj:Int→List Int} {u v a b:Int} (h:Zl6 adj u a) (k:Zl6 adj v b):a=b ↔ Zk8 adj u v:=by
 constructor
 · intro e;subst e;exact h.1.trans k.1.symm
 · intro m
   exact Int.le_antisymm (h.2 b (m.trans k.1)) (k.2 a (m.symm.trans h.1))
theorem Ziu.one {adj:Int→List Int} {n:Nat} {L M:List Int} (h:Ziu adj n L) (k:Ziu adj n M):L=M:=by
 refine Zig (by rw [h.1,k.1]) fun j hj=>?_
 rw [h.1] at hj
 exact (h.2 j hj).one (k.2 j hj)
theorem TI.labs {n:Nat} {adj:Int→List Int} {s:Za4} (h:TI n adj s []) (hv:∀ u:Nat,u<n→Go.Gm.nth s.wh u≠0):Ziu adj n s.out:=by
 refine ⟨h.lout,fun u hu=>?_⟩
 have hd:ZbD (fI s.wh) s.wait.reverse (u:Int):=by
   refine ⟨by rw [Zb9 (by omega)];exact hv u (by omega),fun hm=>?_⟩
   obtain ⟨r,hr,_⟩:=h.tj.root _ hm
   cases hr
 have:=(h.tj.done _ hd).2
 rw [Zb9 (by omega)] at this
 exact this
theorem ZgD {n:Nat} {l:List Int} (hnd:l.Nodup) (h:∀ y ∈ l,0≤y∧y<n):l.length≤n:=by
 have hn2:l.Nodup→(∀ y ∈ l,y ∈ (List.range n).map fun i:Nat=>(i:Int))→l.length≤((List.range n).map fun i:Nat=>(i:Int)).length:=fun a b=>List.Nodup.length_le_of_subset a b
 have:=hn2 hnd fun y hy=>List.mem_map.2 ⟨y.toNat,List.mem_range.2 (by have:=h y hy;omega),by have:=h y hy;omega⟩
 simpa using this
def Zis:List Int→Int
 | []=>0
 | x :: l=>l.foldl min x
theorem ZmB {l:List Int} (h:l≠[]):Zrz (Zis l) l:=by
 have key:∀ (l:List Int) (x:Int),(l.foldl min x=x∨l.foldl min x ∈ l)∧l.foldl min x≤x ∧ ∀ y ∈ l,l.foldl min x≤y:=by
   intro l
   induction l with
   | nil=>intro x;exact ⟨.inl rfl,Int.le_refl _,by simp⟩
   | cons a l ih=>
     intro x
     obtain ⟨h1,h2,h3⟩:=ih (min x a)
     rw [List.foldl_cons]
     refine ⟨?_,by omega,fun y hy=>?_⟩
     · rcases h1 with h1 | h1
       · rw [h1]
         by_cases e:x≤a
         · left;omega
         · right;have:min x a=a:=by omega
           rw [this];simp
       · right;simp [h1]
     · rcases List.mem_cons.1 hy with rfl | hy
       · omega
       · exact h3 y hy
 cases l with
 | nil=>exact absurd rfl h
 | cons x l=>
   obtain ⟨h1,h2,h3⟩:=key l x
   refine ⟨?_,fun y hy=>?_⟩
   · show l.foldl min x ∈ x :: l
     rcases h1 with h1 | h1
     · rw [h1];simp
     · simp [h1]
   · rcases List.mem_cons.1 hy with rfl | hy
     · exact h2
     · exact h3 y hy
def leaveD (n:Nat) (s:Za4) (v:Int):Za4:=if fI s.lo v=fI s.wh v then Znd n s v (Zis (partL s.wait v)) else s
theorem Zfr (n:Nat) (s:Za4) (v:Int):(leaveD n s v).wh=s.wh∧(leaveD n s v).lo=s.lo:=by unfold leaveD;split <;> exact ⟨rfl,rfl⟩
theorem Zgm (w:List Int) (v:Int):partL w v≠[]:=by unfold partL;simp
theorem ZpR {w:List Int} {k:Nat} {v:Int} (hk:k<w.length) (hn:v ∉ w.reverse.take k) (hv:Go.Gm.nth w (w.length - (k+1))=v):w.reverse.take k ++ [v] = partL w v∧w.take (w.length - (k+1))=keepL w v:=by
 have e0:Go.Gm.nth w.reverse k=v:=by
   rw [nth_eq (by simpa using hk),List.getElem_reverse,← hv,nth_eq (by omega)]
   congr 1;omega
 have e1:w.reverse=w.reverse.take k++v :: w.reverse.drop (k+1):=by
   conv=>lhs;rw [← List.take_append_drop k w.reverse]
   rw [List.drop_eq_getElem_cons (by simpa using hk),← nth_eq (by simpa using hk),e0]
 have key:∀ (a b:List Int),v ∉ a→(a++v :: b).takeWhile (fun y=>decide (y≠v))=a∧(a++v :: b).dropWhile (fun y=>decide (y≠v))=v :: b:=by
   intro a b
   induction a with
   | nil=>intro _;simp
   | cons x a ih=>
     intro h
     have h1:x≠v:=fun e=>h (by simp [e])
     obtain ⟨i1,i2⟩:=ih fun h2=>h (by simp [h2])
     rw [List.cons_append,List.takeWhile_cons_of_pos (by simpa using h1),List.dropWhile_cons_of_pos (by simpa using h1),i1,i2]
     exact ⟨rfl,rfl⟩
 obtain ⟨k1,k2⟩:=key _ (w.reverse.drop (k+1)) hn
 rw [← e1] at k1 k2
 unfold partL keepL
 rw [k1,k2]
 refine ⟨rfl,?_⟩
 show _=(w.reverse.drop (k+1)).reverse
 rw [List.drop_reverse,List.reverse_reverse]
theorem Zje {w:List Int} {k:Nat} (hk:k<w.length):w.reverse.take k ++ [Go.Gm.nth w (w.length - (k+1))] = w.reverse.take (k+1)∧w.take (w.length - k)=w.take (w.length - (k+1)) ++ [Go.Gm.nth w (w.length - (k+1))]:=by
 constructor
 · rw [Zv (by simpa using hk)]
   congr 2
   rw [nth_eq (by omega),nth_eq (by simpa using hk),List.getElem_reverse]
   congr 1;omega
 · conv=>lhs;rw [show w.length - k=w.length - (k+1)+1 by omega]
   exact Zv (by omega)
section
variable {n:Nat} {adj:Int→List Int} {s:Za4} {way:ZkY} {v u:Int} {nx:List Int}
theorem ZoK {l:List Int} {i:Nat} : l.set i (Go.Gm.nth l i)=l:=by
 apply List.ext_getElem (by simp)
 intro j h1 h2
 rw [List.getElem_set]
 split
 · rename_i e;subst e;rw [nth_eq h2]
 · rfl
theorem TI.leftRoot (h:TI n adj s [(v,[])]):TI n adj (leaveD n s v) []:=by
 unfold leaveD
 rw [if_pos h.root]
 exact TI.part (way:=[]) h h.root (ZmB (Zgm _ _))
theorem TI.left (hu:0≤u∧u<n) (h:TI n adj s (way ++ [(u,nx)] ++ [(v,[])])):TI n adj { leaveD n s v with lo:=(leaveD n s v).lo.set u.toNat (min (fI s.lo u) (fI s.lo v)) } (way ++ [(u,nx)]):=by
 unfold leaveD
 by_cases e:fI s.lo v=fI s.wh v
 · rw [if_pos e]
   have h1:=TI.part (way:=way ++ [(u,nx)]) h e (ZmB (Zgm _ _))
   have h2:=h.same e
   rw [h2,Zb9 hu.1]
   have:(Znd n s v (Zis (partL s.wait v))).lo=s.lo:=rfl
   rw [this,ZoK]
   exact h1
 · rw [if_neg e];exact h.stay hu e
theorem TI.nodes (h:TI n adj s way):∀ r ∈ way,r.1 ∈ s.wait∧0≤r.1∧r.1<n:=fun r hr=>by
 have:=List.mem_reverse.1 (h.tj.onst r (List.mem_reverse.2 hr))
 exact ⟨this,h.rng _ this⟩
theorem TI.wayLen (h:TI n adj s way):way.length≤n:=by
 have h1:(way.reverse.map Prod.fst).Nodup:=by
   rw [List.Nodup,List.pairwise_map]
   exact h.tj.wdec.imp fun h e=>by rw [e] at h;omega
 have:=ZgD h1 fun y hy=>by
   obtain ⟨r,hr,rfl⟩:=List.mem_map.1 hy
   exact (h.nodes r (List.mem_reverse.1 hr)).2
 simpa using this
theorem TI.waitNd (h:TI n adj s way):s.wait.Nodup:=by
 have:s.wait.reverse.Nodup:=h.tj.dec.imp fun h e=>by rw [e] at h;omega
 exact (List.pairwise_reverse.1 this).imp fun h=>h.symm
theorem TI.waitLe (h:TI n adj s way):s.wait.length≤n:=ZgD h.waitNd h.rng
theorem TI.waitLt (h:TI n adj s way) (hu:0≤u∧u<n) (h0:fI s.wh u=0):s.wait.length<n:=by
 have:=ZgD (n:=n) (l:=u :: s.wait) (List.nodup_cons.2 ⟨h.unv h0,h.waitNd⟩) fun y hy=>by
   rcases List.mem_cons.1 hy with rfl | hy
   · exact hu
   · exact h.rng y hy
 rw [List.length_cons] at this;omega
theorem TI.ckLe (h:TI n adj s way):0≤s.ck∧s.ck≤n:=by
 have h1:=h.cnt
 have h2:=h.tj.vis 0
 omega
theorem Zbv (way:ZkY) (r:Int×List Int):muW (way ++ [r])=muW way+(r.2.length+1):=by
 unfold muW;simp
theorem ZmJ (hx:0≤v∧v<n) (h:TI n adj s way) (y:Int):fI (Za6 n s v).wh y=if y=v then s.ck+1 else fI s.wh y:=by
 show fI (s.wh.set _ _) y=_
 rw [Zd8 (by rw [h.lw];exact hx)];rfl
end
theorem Zor {α:Type} {l:List α} {x y:α} : (l ++ [x]).set l.length y=l ++ [y]:=by simp
theorem ZlS {part:List Int} {m:Int} {out:List Int} {i:Nat} (h:i<part.length):(outL (part.take i) m out).set (Go.Gm.nth part i).toNat m=outL (part.take (i+1)) m out:=by
 unfold outL
 rw [Zv h,List.foldl_append];rfl
theorem Zlp {n:Nat} {part:List Int} {y:Int} {inn:List Int} : putL (innL n part inn) n y false=innL n (part ++ [y]) inn:=by
 unfold innL
 rw [List.foldl_append];rfl
theorem Zo3 {w:List Int} {v y:Int} (hv:v ∈ w) (h:y ∈ partL w v):y ∈ w:=by
 have hs:=ZfM hv
 refine List.mem_reverse.1 ?_
 rw [hs]
 unfold partL at h
 rcases List.mem_append.1 h with h1 | h1
 · exact List.mem_append_left _ h1
 · rw [List.mem_singleton.1 h1];simp
theorem Zls {w:List Int} {v:Int} {j:Nat} (hv:v ∈ w) (h:v ∉ w.reverse.take j):j<w.length:=by
 refine Nat.lt_of_not_le fun hj=>h ?_
 rw [List.take_of_length_le (by simpa using hj)];exact List.mem_reverse.2 hv
theorem Zlg {l:List Int} {i:Nat} (h1:1≤i) (h2:i<l.length):(if Go.Gm.nth l i<Zis (l.take i) then Go.Gm.nth l i else Zis (l.take i))=Zis (l.take (i+1)):=by
 rw [Zv h2]
 cases l with
 | nil=>simp at h2
 | cons x l=>
   obtain ⟨j,rfl⟩:∃ j,i=j+1:=⟨i - 1,by omega⟩
   rw [List.take_succ_cons,List.cons_append]
   show _=(l.take j ++ [_]).foldl min x
   rw [List.foldl_append]
   show (if _<(l.take j).foldl min x then _ else (l.take j).foldl min x)=min ((l.take j).foldl min x) _
   split <;> omega
theorem Zn6 {l:List Int} (h:l≠[]):Go.Gm.nth l 0=Zis (l.take 1):=by
 cases l with
 | nil=>exact absurd rfl h
 | cons x l=>rw [nth_eq (by simp)];rfl
theorem Zph (a b:Int):(if b<a then b else a)=min a b:=by split <;> omega
theorem ZmD {α:Type} {l:List α} (h:l≠[]):∃ m r,l=m ++ [r]:=⟨l.dropLast,l.getLast h,(List.dropLast_concat_getLast h).symm⟩
theorem Zoe {α:Type} [Inhabited α] {l:List α} {x:α} : Go.Gm.nth (x :: l) 0=x:=by rw [nth_eq (by simp)];rfl
def FrI (n:Nat) (adj:Int→List Int) (w0:List Int) (x:Int) (q:Za4) (way:ZkY):Prop:=TI n adj q way∧fI q.wh x≠0 ∧ ∀ y,fI w0 y≠0→fI q.wh y≠0
def muF (n:Nat) (adj:Int→List Int) (q:Za4) (way:ZkY):Nat:=muW way+muU n adj q.wh
section
variable {n:Nat} {adj:Int→List Int} {w0:List Int} {x:Int} {q:Za4} {way:ZkY} {v u y:Int} {nx nu:List Int}
theorem Zel (hx:0≤v∧v<n) (h:TI n adj q way):fI (Za6 n q v).wh v≠0 ∧ ∀ y,fI q.wh y≠0→fI (Za6 n q v).wh y≠0:=by
 have hc:=h.ckLe
 refine ⟨by rw [ZmJ hx h,if_pos rfl];omega,fun y hy=>?_⟩
 rw [ZmJ hx h]
 split
 · omega
 · exact hy
theorem FrI.start (hx:0≤x∧x<n) (h:TI n adj q []) (h0:fI q.wh x=0):FrI n adj q.wh x (Za6 n q x) [(x,adj x)]:=⟨h.first hx h0,(Zel hx h).1,(Zel hx h).2⟩
theorem FrI.root (h:FrI n adj w0 x q [(v,[])]):FrI n adj w0 x (leaveD n q v) []∧muF n adj (leaveD n q v) [] < muF n adj q [(v,[])]:=by
 obtain ⟨h1,h2,h3⟩:=h
 have e:=(Zfr n q v).1
 refine ⟨⟨h1.leftRoot,by rw [e];exact h2,fun y hy=>by rw [e];exact h3 y hy⟩,?_⟩
 unfold muF muW
 rw [e];simp
theorem FrI.left (h:FrI n adj w0 x q (way ++ [(u,nu)] ++ [(v,[])])):FrI n adj w0 x { leaveD n q v with lo:=(leaveD n q v).lo.set u.toNat (min (fI q.lo u) (fI q.lo v)) } (way ++ [(u,nu)])∧muF n adj { leaveD n q v with lo:=(leaveD n q v).lo.set u.toNat (min (fI q.lo u) (fI q.lo v)) } (way ++ [(u,nu)])<muF n adj q (way ++ [(u,nu)] ++ [(v,[])]):=by
 obtain ⟨h1,h2,h3⟩:=h
 have e:=(Zfr n q v).1
 refine ⟨⟨h1.left (h1.nodes (u,nu) (by simp)).2,by show fI (leaveD n q v).wh x≠0;rw [e];exact h2,fun y hy=>by show fI (leaveD n q v).wh y≠0;rw [e];exact h3 y hy⟩,?_⟩
 show muW _+muU n adj (leaveD n q v).wh<muW _+muU n adj q.wh
 rw [e,Zbv (way ++ [(u,nu)])];omega
theorem FrI.meet (hadj:∀ u y,y ∈ adj u→0≤y∧y<(n:Int)) (h:FrI n adj w0 x q (way ++ [(v,y :: nx)])) (h0:fI q.wh y=0):FrI n adj w0 x (Za6 n q y) (way ++ [(v,nx)] ++ [(y,adj y)])∧muF n adj (Za6 n q y) (way ++ [(v,nx)] ++ [(y,adj y)])<muF n adj q (way ++ [(v,y :: nx)]):=by
 obtain ⟨h1,h2,h3⟩:=h
 have hy:0≤y∧y<n:=hadj v y (h1.tj.sub (v,y :: nx) (by simp) y (by simp))
 refine ⟨⟨h1.meet hadj h0,(Zel hy h1).2 x h2,fun z hz=>(Zel hy h1).2 z (h3 z hz)⟩,?_⟩
 have:=(Zgo hy h1 h0).2
 unfold muF
 rw [Zbv,Zbv,Zbv,List.length_cons]
 dsimp only
 omega
theorem FrI.wait (h:FrI n adj w0 x q (way ++ [(v,y :: nx)])) (hx:y ∈ q.inn):FrI n adj w0 x { q with lo:=q.lo.set v.toNat (min (fI q.lo v) (fI q.wh y)) } (way ++ [(v,nx)])∧muF n adj { q with lo:=q.lo.set v.toNat (min (fI q.lo v) (fI q.wh y)) } (way ++ [(v,nx)])<muF n adj q (way ++ [(v,y :: nx)]):=by
 obtain ⟨h1,h2,h3⟩:=h
 refine ⟨⟨h1.wait (h1.nodes (v,y :: nx) (by simp)).2 hx,h2,h3⟩,?_⟩
 show muW _+muU n adj q.wh<muW _+muU n adj q.wh
 rw [Zbv,Zbv,List.length_cons];dsimp only;omega
theorem FrI.past (h:FrI n adj w0 x q (way ++ [(v,y :: nx)])) (h0:fI q.wh y≠0) (hx:y ∉ q.inn):FrI n adj w0 x q (way ++ [(v,nx)])∧muF n adj q (way ++ [(v,nx)])<muF n adj q (way ++ [(v,y :: nx)]):=by
 obtain ⟨h1,h2,h3⟩:=h
 refine ⟨⟨h1.past h0 hx,h2,h3⟩,?_⟩
 unfold muF
 rw [Zbv,Zbv,List.length_cons];dsimp only;omega
end
theorem ZhS (id k:Int) (l:List OpD):(Zbw id l).count ⟨id,k⟩ = wcnt l k:=by
 unfold Zbw wcnt
 induction l with
 | nil=>rfl
 | cons o l ih=>
   cases hr:o.read with
   | true=>simp [List.filter_cons,hr] at ih ⊢;exact ih
   | false=>
     rw [List.filter_cons_of_pos (by simp [hr]),List.map_cons,List.count_cons,ih]
     by_cases hk:o.key=k
     · rw [List.filter_cons_of_pos (by simp [hr,hk])];simp [hk]
     · rw [List.filter_cons_of_neg (by simp [hr,hk])]
       have:¬ ((⟨id,o.key⟩:Zc5) == ⟨id,k⟩)=true:=by simp [hk]
       simp [hk]
theorem ZhB {id id2 k:Int} (h:id2≠id) (l:List OpD):(Zbw id2 l).count ⟨id,k⟩ = 0:=by
 rw [List.count_eq_zero]
 intro hm
 unfold Zbw at hm
 obtain ⟨o,_,e⟩:=List.mem_map.1 hm
 exact h (congrArg Zc5.fst e)
theorem Zfh {id k:Int} {l:List TxD} (h:∀ t ∈ l,t.id≠id):(lastK l).count ⟨id,k⟩ = 0:=by
 induction l with
 | nil=>rfl
 | cons t l ih=>
   have h1:=ih fun x hx=>h x (List.mem_cons_of_mem _ hx)
   unfold lastK at h1 ⊢
   rw [List.flatMap_cons,List.count_append,h1]
   split
   · rw [ZhB (h t (by simp))]
   · rfl
theorem Zom {g:Zn} (hr:ZG g) {u:TxD} (hu:u ∈ g.txs) (hd:u.done=true) (k:Int):(lastK g.txs).count ⟨u.id,k⟩ = wcnt u.ops k:=by
 have hp:List.Pairwise (fun a b:TxD=>a.id<b.id) g.txs:=List.pairwise_map.1 (Zl0 hr.2.1)
 obtain ⟨s,r,e⟩:=List.append_of_mem hu
 rw [e] at hp ⊢
 obtain ⟨_,h2,h3⟩:=List.pairwise_append.1 hp
 have hs:=Zfh (id:=u.id) (k:=k) (l:=s) fun t ht=>by have:=h3 t ht u (by simp);omega
 have ht:=Zfh (id:=u.id) (k:=k) (l:=r) fun t ht=>by have:=(List.pairwise_cons.1 h2).1 t ht;omega
 unfold lastK at hs ht ⊢
 rw [List.flatMap_append,List.flatMap_cons,List.count_append,List.count_append,hs,ht,if_pos hd,ZhS]
 omega
theorem ZnS {t:TxD} (h:Zai t=0):1≤t.id:=by
 unfold Zai at h
 split at h
 · cases h
 · rename_i h1;exact (Decidable.not_not.1 h1).1
def Zcg:List Int→Int→Int→Prop
 | x :: y :: l,a,b=>(x=a∧y=b)∨Zcg (y :: l) a b
 | _,_,_=>False
def Zir (l:List Int) (x y:Int):Prop:=(x=0∧l.head? = some y)∨Zcg l x y
theorem Zdp:∀ {l:List Int} {a b:Int},Zcg l a b ↔ ∃ i,i+1<l.length∧Go.Gm.nth l i=a∧Go.Gm.nth l (i+1)=b
 | [],a,b=>by simp [Zcg]
 | [x],a,b=>by simp [Zcg]
 | x :: y :: l,a,b=>by
   have ih:=Zdp (l:=y :: l) (a:=a) (b:=b)
   unfold Zcg
   rw [ih]
   constructor
   · rintro (⟨rfl,rfl⟩ | ⟨i,h1,h2,h3⟩)
     · exact ⟨0,by simp,by rw [nth_eq (by simp)];rfl,by rw [nth_eq (by simp)];rfl⟩
     · have h1':i+1<(y :: l).length:=h1
       refine ⟨i+1,by simp at h1 ⊢;omega,?_,?_⟩
       · rw [← h2,nth_eq (l:=x :: y :: l) (by simp at h1 ⊢;omega),nth_eq (l:=y :: l) (by omega)];rfl
       · rw [← h3,nth_eq (l:=x :: y :: l) (by simp at h1 ⊢;omega),nth_eq (l:=y :: l) h1'];rfl
   · rintro ⟨i,h1,h2,h3⟩
     cases i with
     | zero=>
       rw [nth_eq (by simp)] at h2 h3
       exact .inl ⟨h2,h3⟩
     | succ i=>
       refine .inr ⟨i,by simp at h1 ⊢;omega,?_,?_⟩
       · rw [← h2,nth_eq (l:=x :: y :: l) (by simp at h1 ⊢;omega),nth_eq (l:=y :: l) (by simp at h1 ⊢;omega)];rfl
       · rw [← h3,nth_eq (l:=x :: y :: l) (by simp at h1 ⊢;omega),nth_eq (l:=y :: l) (by simp at h1 ⊢;omega)];rfl
theorem Zcg.mem:∀ {l:List Int} {a b:Int},Zcg l a b→a ∈ l∧b ∈ l
 | x :: y :: l,a,b,h=>by
   rcases h with ⟨rfl,rfl⟩ | h
   · simp
   · have:=h.mem
     exact ⟨List.mem_cons_of_mem _ this.1,List.mem_cons_of_mem _ this.2⟩
theorem ZgK {l:List Int} {x y:Int} : Zir l x y ↔ ∃ j,j<l.length∧(if j=0 then x=0 else Go.Gm.nth l (j - 1)=x)∧Go.Gm.nth l j=y:=by
 unfold Zir
 rw [Zdp]
 constructor
 · rintro (⟨h1,h2⟩ | ⟨i,h1,h2,h3⟩)
   · cases l with
     | nil=>cases h2
     | cons z l=>exact ⟨0,by simp,by rw [if_pos rfl];exact h1,by rw [nth_eq (by simp)];exact Option.some.inj h2⟩
   · exact ⟨i+1,h1,by rw [if_neg (by omega)];exact h2,h3⟩
 · rintro ⟨j,h1,h2,h3⟩
   cases j with
   | zero=>
     cases l with
     | nil=>cases h1
     | cons z l=>exact .inl ⟨by rw [if_pos rfl] at h2;exact h2,by rw [nth_eq (by simp)] at h3;exact congrArg some h3⟩
   | succ i=>exact .inr ⟨i,h1,by rw [if_neg (by omega)] at h2;exact h2,h3⟩
theorem Zir.mem {l:List Int} {x y:Int} (h:Zir l x y):y ∈ l:=by
 rcases h with ⟨_,h⟩ | h
 · exact List.mem_of_head? h
 · exact h.mem.2
theorem Znv {l:List Int} (hn:l.Nodup) (h1:∀ z ∈ l,1≤z) {x y y':Int} (h:Zir l x y) (k:Zir l x y'):y=y':=by
 obtain ⟨i,hi,e1,e2⟩:=ZgK.1 h
 obtain ⟨j,hj,f1,f2⟩:=ZgK.1 k
 have hinj:∀ {a b:Nat},a<l.length→b<l.length→Go.Gm.nth l a=Go.Gm.nth l b→a=b:=fun {a b} ha hb e=>by
   rw [nth_eq ha,nth_eq hb] at e
   rcases Nat.lt_trichotomy a b with h9 | h9 | h9
   · exact absurd e (List.pairwise_iff_getElem.1 hn a b ha hb h9)
   · exact h9
   · exact absurd e.symm (List.pairwise_iff_getElem.1 hn b a hb ha h9)
 have:i=j:=by
   by_cases h0:i=0 <;> by_cases h2:j=0
   · omega
   · rw [if_pos h0] at e1
     rw [if_neg h2] at f1
     have:=h1 _ (nth_mem (q:=l) (k:=j - 1) (by omega))
     omega
   · rw [if_neg h0] at e1
     rw [if_pos h2] at f1
     have:=h1 _ (nth_mem (q:=l) (k:=i - 1) (by omega))
     omega
   · rw [if_neg h0] at e1
     rw [if_neg h2] at f1
     have:=hinj (by omega) (by omega) (e1.trans f1.symm)
     omega
 rw [← e2,← f2,this]
theorem ZbX {id:Int} : ∀ {l:List Int},l.Nodup → ∀ {a b:Int},Zcg (withoutO l id) a b→Zcg l a b∨(Zcg l a id∧Zcg l id b)
 | [],_,a,b,h=>by cases h
 | z :: l,hn,a,b,h=>by
   have hn':=List.nodup_cons.1 hn
   have ih:=fun {a b}=>ZbX (id:=id) hn'.2 (a:=a) (b:=b)
   have lift:∀ {p q:Int},Zcg l p q→Zcg (z :: l) p q:=fun {p q} h=>by
     cases l with
     | nil=>cases h
     | cons y l=>exact .inr h
   unfold withoutO at h ih
   by_cases e:z=id
   · rw [List.filter_cons_of_neg (by simpa using e)] at h
     exact (ih h).imp lift fun ⟨h1,h2⟩=>⟨lift h1,lift h2⟩
   · rw [List.filter_cons_of_pos (by simpa using e)] at h
     have key:(z=a∧(l.filter fun x=>decide (x≠id)).head? = some b)∨Zcg (l.filter fun x=>decide (x≠id)) a b:=by
       cases hF:l.filter fun x=>decide (x≠id) with
       | nil=>rw [hF] at h;cases h
       | cons y F=>
         rw [hF] at h
         rcases h with ⟨h1,h2⟩ | h
         · exact .inl ⟨h1,congrArg some h2⟩
         · exact .inr h
     rcases key with ⟨h1,h2⟩ | h1
     · cases l with
       | nil=>cases h2
       | cons y l2=>
         by_cases e2:y=id
         · subst e2
           have hn2:=List.nodup_cons.1 hn'.2
           rw [List.filter_cons_of_neg (by simp)] at h2
           have hs:l2.filter (fun x=>decide (x≠y))=l2:=List.filter_eq_self.2 fun x hx=>by simp;exact fun e3=>hn2.1 (e3 ▸ hx)
           rw [hs] at h2
           cases l2 with
           | nil=>cases h2
           | cons u l3=>
             have h2:=Option.some.inj h2
             exact .inr ⟨.inl ⟨h1,rfl⟩,.inr (.inl ⟨rfl,h2⟩)⟩
         · rw [List.filter_cons_of_pos (by simpa using e2)] at h2
           exact .inl (.inl ⟨h1,Option.some.inj h2⟩)
     · exact (ih h1).imp lift fun ⟨h2,h3⟩=>⟨lift h2,lift h3⟩
theorem Zho {id:Int} {l:List Int} (hn:l.Nodup) {x y:Int} (h:Zir (withoutO l id) x y):Zir l x y∨(Zir l x id∧Zcg l id y):=by
 rcases h with ⟨h1,h2⟩ | h
 · cases l with
   | nil=>cases h2
   | cons z l=>
     unfold withoutO at h2
     by_cases e:z=id
     · subst e
       have hn':=List.nodup_cons.1 hn
       rw [List.filter_cons_of_neg (by simp)] at h2
       have hs:l.filter (fun x=>decide (x≠z))=l:=List.filter_eq_self.2 fun x hx=>by simp;exact fun e3=>hn'.1 (e3 ▸ hx)
       rw [hs] at h2
       cases l with
       | nil=>cases h2
       | cons u l=>exact .inr ⟨.inl ⟨h1,rfl⟩,.inl ⟨rfl,Option.some.inj h2⟩⟩
     · rw [List.filter_cons_of_pos (by simpa using e)] at h2
       exact .inl (.inl ⟨h1,h2⟩)
 · exact (ZbX hn h).imp .inr fun ⟨h1,h2⟩=>⟨.inr h1,h2⟩
def OkV (g:Zn) (o:OpD):Prop:=o.tx=0 ∨ ∃ u,Z7 g.txs o.tx=some u∧u.done=true∧(wcnt u.ops o.key:Int)=o.nth
def RdS (g:Zn) (t:TxD) (o:OpD) (e:Zk):Prop:=o.tx≠t.id∧OkV g o∧((o.tx≠0∧e = ⟨o.tx,t.id,2,o.key⟩) ∨ ∃ y,Zir (getO g.orders o.key) o.tx y∧y≠t.id∧e = ⟨t.id,y,3,o.key⟩)
def EdS (g:Zn) (e:Zk):Prop:=(e.kind=1∧Zcg (getO g.orders e.key) e.src e.dst) ∨ ∃ t ∈ g.txs,t.done=true ∧ ∃ o ∈ t.ops,o.read=true∧RdS g t o e
theorem ZdB {g:Zn} (hg:ZG g) (k:Int):(getO g.orders k).Nodup ∧ ∀ z ∈ getO g.orders k,1≤z:=by
 obtain ⟨_,h2,h3,_,_,h6⟩:=Zba.1 hg
 refine ⟨(h6 k).nodup_iff.2 (ZbM h2 k),fun z hz=>?_⟩
 obtain ⟨t,h4,h5,_⟩:=ZbO.1 ((h6 k).mem_iff.1 hz)
 rw [← h5];exact ZnS (h3 t h4).1
theorem ZlE {κ:Type} [DecidableEq κ] {k:κ} {v:Int} {A:List (κ×Int)} (hA:∀ z ∈ A,z.1=k→z.2=v) (hk:∃ z ∈ A,z.1=k):Zlb A k=v:=by
 have key:∀ (A:List (κ×Int)) (x:Int),(∀ z ∈ A,z.1=k→z.2=v)→((∃ z ∈ A,z.1=k)∨x=v)→A.foldl (fun x z=>if k=z.1 then z.2 else x) x=v:=by
   intro A
   induction A with
   | nil=>rintro x _ (⟨z,hz,_⟩ | h);cases hz;exact h
   | cons z A ih=>
     intro x hA h
     rw [List.foldl_cons]
     refine ih _ (fun z hz=>hA z (List.mem_cons_of_mem _ hz)) ?_
     by_cases e:k=z.1
     · rw [if_pos e];exact .inr (hA z List.mem_cons_self e.symm)
     · rw [if_neg e]
       rcases h with ⟨y,hy,h⟩ | h
       · rcases List.mem_cons.1 hy with rfl | hy
         · exact absurd h.symm e
         · exact .inl ⟨y,hy,h⟩
       · exact .inr h
 exact key A 0 hA (.inl hk)
theorem Zie {κ:Type} [DecidableEq κ] {k:κ} {A:List (κ×Int)} (hA:∀ z ∈ A,z.1≠k):Zlb A k=0:=by
 have key:∀ (A:List (κ×Int)) (x:Int),(∀ z ∈ A,z.1≠k)→A.foldl (fun x z=>if k=z.1 then z.2 else x) x=x:=by
   intro A
   induction A with
   | nil=>intro x _;rfl
   | cons z A ih=>
     intro x hA
     rw [List.foldl_cons,if_neg fun e=>hA z List.mem_cons_self e.symm]
     exact ih x fun y hy=>hA y (List.mem_cons_of_mem _ hy)
 exact key A 0 hA
theorem Zsa {g:Zn} (hg:ZG g) {k x:Int} : (∀ y,Zir (getO g.orders k) x y→nxI g k x=y)∧((¬ ∃ y,Zir (getO g.orders k) x y)→nxI g k x=0):=by
 have hr:=(ZR hg).2
 have hm:∀ z ∈ nxA g.orders,z.1=(⟨k,x⟩:Zc5)→Zir (getO g.orders k) x z.2:=fun z hz e=>by
   unfold nxA at hz
   obtain ⟨o,ho,hz⟩:=List.mem_flatMap.1 hz
   unfold nxO at hz
   obtain ⟨j,hj,rfl⟩:=List.mem_map.1 hz
   injection e with e1 e2
   rw [← e1,Zc9 (ZE.1 hr) ho]
   refine ZgK.2 ⟨j,List.mem_range.1 hj,?_,rfl⟩
   unfold atI at e2
   by_cases h0:j=0
   · rw [if_pos h0] at e2 ⊢;exact e2.symm
   · rw [if_neg h0] at e2 ⊢;exact e2
 have hin:∀ y,Zir (getO g.orders k) x y → ∃ z ∈ nxA g.orders,z.1=(⟨k,x⟩:Zc5):=fun y h=>by
   have hne:getO g.orders k≠[]:=fun e=>by have:=h.mem;rw [e] at this;cases this
   have ho:=Zgu hne
   obtain ⟨j,h1,h2,h3⟩:=ZgK.1 h
   refine ⟨(⟨k,x⟩,y),?_,rfl⟩
   unfold nxA
   refine List.mem_flatMap.2 ⟨_,ho,?_⟩
   unfold nxO
   refine List.mem_map.2 ⟨j,List.mem_range.2 h1,?_⟩
   dsimp only
   rw [h3]
   unfold atI
   by_cases h0:j=0
   · rw [if_pos h0] at h2 ⊢;rw [h2]
   · rw [if_neg h0] at h2 ⊢;rw [h2]
 obtain ⟨o1,o2⟩:=ZdB hg k
 refine ⟨fun y h=>ZlE (fun z hz e=>Znv o1 o2 (hm z hz e) h) (hin y h),fun h=>Zie fun z hz e=>h ⟨_,hm z hz e⟩⟩
theorem ZqL {g:Zn} (hg:ZG g) {id k n:Int} : (ZhL g id=0∨¬ Zkq g id k=n) ↔ ¬ ∃ u,Z7 g.txs id=some u∧u.done=true∧(wcnt u.ops k:Int)=n:=by
 have hr:=(ZR hg).1
 by_cases h:∃ u,Z7 g.txs id=some u∧u.done=true
 · obtain ⟨u,h1,h2⟩:=h
   obtain ⟨m1,m2⟩:=findT_mem h1
   have hd:ZhL g id=1:=by
     unfold ZhL ZcQ
     refine ZlE (fun z hz _=>?_) ⟨(u.id,1),List.mem_map.2 ⟨u,List.mem_filter.2 ⟨m1,h2⟩,rfl⟩,m2⟩
     obtain ⟨t,_,rfl⟩:=List.mem_map.1 hz
     rfl
   have hl:Zkq g id k=(wcnt u.ops k:Int):=by
     unfold Zkq
     rw [← m2,Zom hg m1 h2]
   rw [hd,hl,h1]
   simp [h2]
 · have hd:ZhL g id=0:=by
     unfold ZhL ZcQ
     refine Zie fun z hz e=>?_
     obtain ⟨t,ht,rfl⟩:=List.mem_map.1 hz
     obtain ⟨m1,m2⟩:=List.mem_filter.1 ht
     exact h ⟨t,by rw [← e];exact ZcD hr m1,m2⟩
   rw [hd]
   simp only [true_or,true_iff]
   rintro ⟨u,h1,h2,_⟩
   exact h ⟨u,h1,h2⟩
theorem Zpo {g:Zn} (hg:ZG g) {t:TxD} {o:OpD} {e:Zk} : e ∈ rdO g t o ↔ RdS g t o e:=by
 unfold rdO RdS OkV
 have hno:Zpt g t o=true ↔ ¬ (o.tx≠t.id∧(o.tx=0 ∨ ∃ u,Z7 g.txs o.tx=some u∧u.done=true∧(wcnt u.ops o.key:Int)=o.nth)):=by
   unfold Zpt
   have:=ZqL hg (id:=o.tx) (k:=o.key) (n:=o.nth)
   simp only [Bool.or_eq_true,Bool.and_eq_true,decide_eq_true_eq,Bool.not_eq_true',decide_eq_false_iff_not]
   rw [this]
   by_cases h1:o.tx=t.id <;> by_cases h2:o.tx=0 <;> simp [h1,h2]
   all_goals (try omega)
 obtain ⟨n1,n2⟩:=Zsa hg (k:=o.key) (x:=o.tx)
 by_cases hb:Zpt g t o=true
 · rw [if_pos hb]
   have:=hno.1 hb
   constructor
   · intro h;cases h
   · rintro ⟨h1,h2,_⟩;exact absurd ⟨h1,h2⟩ this
 · rw [if_neg hb]
   have hok:o.tx≠t.id∧(o.tx=0 ∨ ∃ u,Z7 g.txs o.tx=some u∧u.done=true∧(wcnt u.ops o.key:Int)=o.nth):=Classical.not_not.1 fun h=>hb (hno.2 h)
   rw [List.mem_append]
   have hB:e ∈ rdB g t o ↔ ∃ y,Zir (getO g.orders o.key) o.tx y∧y≠t.id∧e = ⟨t.id,y,3,o.key⟩:=by
     unfold rdB
     by_cases hx:∃ y,Zir (getO g.orders o.key) o.tx y
     · obtain ⟨y,hy⟩:=hx
       have e1:=n1 y hy
       have hy1:=(ZdB hg o.key).2 y hy.mem
       rw [e1]
       by_cases h2:y=t.id
       · rw [if_neg (by simp [h2])]
         constructor
         · intro h;cases h
         · rintro ⟨y',h3,h4,_⟩
           have:=n1 y' h3
           rw [e1] at this
           exact absurd (this.symm.trans h2) h4
       · rw [if_pos ⟨by omega,h2⟩,List.mem_singleton]
         constructor
         · intro h;exact ⟨y,hy,h2,h⟩
         · rintro ⟨y',h3,_,h4⟩
           have:=n1 y' h3
           rw [e1] at this
           rw [this];exact h4
     · rw [n2 hx,if_neg (by simp)]
       constructor
       · intro h;cases h
       · rintro ⟨y,h,_⟩;exact absurd ⟨y,h⟩ hx
   rw [hB]
   have hA:e ∈ rdA t o ↔ o.tx≠0∧e = ⟨o.tx,t.id,2,o.key⟩:=by
     unfold rdA
     split
     · rename_i h;simp [h]
     · rename_i h;simp [h]
   rw [hA]
   exact ⟨fun h=>⟨hok.1,hok.2,h⟩,fun h=>h.2.2⟩
abbrev PT1:Int→Bool:=fun _=>true
theorem Zrx {g:Zn} (hg:ZG g) {e:Zk} : e ∈ Zgz (wwC PT1 g) (rdC PT1 g) ↔ EdS g e:=by
 unfold Zgz wwC rdC EdS
 rw [if_pos hg,if_pos hg,List.mem_append]
 have hr:=(ZR hg).2
 refine or_congr ?_ ?_
 · rw [List.mem_map]
   unfold wwA
   constructor
   · rintro ⟨z,hz,rfl⟩
     obtain ⟨o,ho,hz⟩:=List.mem_flatMap.1 hz
     rw [if_pos rfl] at hz
     unfold wwO at hz
     obtain ⟨i,hi,rfl⟩:=List.mem_map.1 hz
     have:=List.mem_range.1 hi
     refine ⟨rfl,?_⟩
     dsimp only
     rw [Zc9 (ZE.1 hr) ho,Zdp]
     exact ⟨i,by omega,rfl,rfl⟩
   · rintro ⟨h1,h2⟩
     have hne:getO g.orders e.key≠[]:=fun e9=>by rw [e9] at h2;cases h2
     have ho:=Zgu hne
     obtain ⟨i,h3,h4,h5⟩:=Zdp.1 h2
     refine ⟨(e,1),List.mem_flatMap.2 ⟨_,ho,?_⟩,rfl⟩
     rw [if_pos rfl]
     unfold wwO
     refine List.mem_map.2 ⟨i,List.mem_range.2 (by dsimp only;omega),?_⟩
     dsimp only
     rw [h4,h5]
     cases e;simp only at h1;subst h1;rfl
 · unfold rdH
   rw [List.mem_flatMap]
   refine exists_congr fun t=>and_congr_right fun ht=>?_
   unfold rdT
   rw [List.mem_flatMap]
   constructor
   · rintro ⟨o,ho,h⟩
     split at h
     · rename_i hc
       simp only [Bool.and_eq_true,and_true] at hc
       exact ⟨hc.1,o,ho,hc.2,(Zpo hg).1 h⟩
     · cases h
   · rintro ⟨h1,o,ho,h2,h3⟩
     exact ⟨o,ho,by rw [if_pos (by simp [h1,h2])];exact (Zpo hg).2 h3⟩
def EK (g:Zn) (mask:Int→Bool) (a b:Int):Prop:=∃ e,EdS g e∧mask e.kind=true∧e.src=a∧e.dst=b
def ZeK (g:Zn) (mask must:Int→Bool):Prop:=∃ e,EdS g e∧mask e.kind=true∧must e.kind=true∧(e.dst=e.src∨Rch (EK g mask) e.dst e.src)
structure ZdW (g x:Zn) (id:Int):Prop where
 rg:ZG g
 rx:ZG x
 tab:∀ i,Z7 x.txs i=if i=id then none else Z7 g.txs i
 ord:∀ k,getO x.orders k=withoutO (getO g.orders k) id
 free:∀ t ∈ g.txs,t.id≠id → ∀ o ∈ t.ops,o.read=true→o.tx≠id
section
variable {g x:Zn} {id:Int}
theorem ZdW.mem (h:ZdW g x id) {t:TxD} : t ∈ x.txs ↔ t ∈ g.txs∧t.id≠id:=by
 have hx:=(ZR h.rx).1
 have hg:=(ZR h.rg).1
 constructor
 · intro ht
   have h1:=ZcD hx ht
   rw [h.tab] at h1
   split at h1
   · cases h1
   · rename_i h2;exact ⟨(findT_mem h1).1,h2⟩
 · rintro ⟨h1,h2⟩
   have h3:=h.tab t.id
   rw [if_neg h2,ZcD hg h1] at h3
   exact (findT_mem h3).1
theorem ZdW.edge (h:ZdW g x id) {e:Zk} (he:EdS x e):∃ e',EdS g e' ∧ e'.kind=e.kind∧e'.src=e.src∧(e'.dst=e.dst∨(e'.dst=id∧EdS g ⟨id,e.dst,1,e.key⟩)):=by
 rcases he with ⟨h1,h2⟩ | ⟨t,ht,hd,o,ho,hr,h1,h2,h3⟩
 · rw [h.ord] at h2
   rcases ZbX (ZdB h.rg e.key).1 h2 with h4 | ⟨h4,h5⟩
   · exact ⟨e,.inl ⟨h1,h4⟩,rfl,rfl,.inl rfl⟩
   · exact ⟨⟨e.src,id,1,e.key⟩,.inl ⟨rfl,h4⟩,h1.symm,rfl,.inr ⟨rfl,.inl ⟨rfl,h5⟩⟩⟩
 · obtain ⟨t1,t2⟩:=h.mem.1 ht
   have hv:OkV g o:=by
     rcases h2 with h2 | ⟨u,h2,h4⟩
     · exact .inl h2
     · rw [h.tab,if_neg (h.free t t1 t2 o ho hr)] at h2
       exact .inr ⟨u,h2,h4⟩
   rcases h3 with ⟨h3,rfl⟩ | ⟨y,h3,h4,rfl⟩
   · exact ⟨_,.inr ⟨t,t1,hd,o,ho,hr,h1,hv,.inl ⟨h3,rfl⟩⟩,rfl,rfl,.inl rfl⟩
   · rw [h.ord] at h3
     rcases Zho (ZdB h.rg o.key).1 h3 with h5 | ⟨h5,h6⟩
     · exact ⟨_,.inr ⟨t,t1,hd,o,ho,hr,h1,hv,.inr ⟨y,h5,h4,rfl⟩⟩,rfl,rfl,.inl rfl⟩
     · exact ⟨⟨t.id,id,3,o.key⟩,.inr ⟨t,t1,hd,o,ho,hr,h1,hv,.inr ⟨id,h5,fun e=>t2 e.symm,rfl⟩⟩,rfl,rfl,.inr ⟨rfl,.inl ⟨rfl,h6⟩⟩⟩
theorem ZdW.reach (h:ZdW g x id) {mask:Int→Bool} (hm:mask 1=true) {a b:Int} (hr:Rch (EK x mask) a b):Rch (EK g mask) a b:=by
 have one:∀ {a b:Int},EK x mask a b→Rch (EK g mask) a b:=fun {a b} ⟨e,h1,h2,h3,h4⟩=>by
   obtain ⟨e',k1,k2,k3,k4⟩:=h.edge h1
   have s1:EK g mask a e'.dst:=⟨e',k1,by rw [k2];exact h2,by rw [k3];exact h3,rfl⟩
   rcases k4 with k4 | ⟨k4,k5⟩
   · rw [k4,h4] at s1;exact .one s1
   · rw [k4] at s1
     exact .step (.one s1) ⟨_,k5,hm,rfl,h4⟩
 induction hr with
 | one k=>exact one k
 | step _ k ih=>exact ih.trans (one k)
theorem ZdW.round (h:ZdW g x id) {mask must:Int→Bool} (hm:mask 1=true) (hr:ZeK x mask must):ZeK g mask must:=by
 obtain ⟨e,h1,h2,h3,h4⟩:=hr
 obtain ⟨e',k1,k2,k3,k4⟩:=h.edge h1
 refine ⟨e',k1,by rw [k2];exact h2,by rw [k2];exact h3,?_⟩
 have hb:e.dst=e.src∨Rch (EK g mask) e.dst e.src:=h4.imp (fun h9=>h9) (fun h9=>h.reach hm h9)
 rw [k3]
 rcases k4 with k4 | ⟨k4,k5⟩
 · rw [k4];exact hb
 · refine .inr ?_
   rw [k4]
   have s:Rch (EK g mask) id e.dst:=.one ⟨_,k5,hm,rfl,rfl⟩
   rcases hb with hb | hb
   · rw [← hb];exact s
   · exact s.trans hb
end
def Zgc (n:Nat) (x:List Int) (v:Value):HP:=.ex fun ws:List Int=>.and (ZaJ n ws x) (Zg3 v n ws)
def Zsk (n:Nat) (x:List Int):PV:=⟨fun u w y=>∃ ws,ZaJ n ws x∧(PV.ref [.int .i64 n,.sl Zq8 ws]).p u w y,fun h ⟨ws,h1,h2⟩=>⟨ws,h1,PV.mono _ h h2⟩⟩
theorem Zcy {v:Value} {n:Nat} {x:List Int} {w:World} {f y:Ys} (h:(Zgc n x v).p w f y):∃ b,v = .pointer (some ⟨b,0,none⟩):=by
 obtain ⟨ws,_,h⟩:=h
 exact (Zmz h).2
theorem ZoM {v:Value} {n:Nat} {x:List Int} : Zq6 (Zgc n x v) v (Zsk n x):=by
 intro w f y y' h hle hf hb
 obtain ⟨ws,h1,h2⟩:=h
 refine ⟨ws,h1,?_⟩
 obtain ⟨wv,hI,f1,f2,e1,e2,e3,⟨b,vs,k1,k2,k3,k4⟩,f3,f4,e4,e5,e6,⟨xs,k5,k6,k7⟩,k8⟩:=h2
 refine ⟨b,0,vs.toList,k1,hf b ((e1 b).2 (.inl ((k3 b).2 rfl))),hb b ((e1 b).2 (.inl ((k3 b).2 rfl))),Zx.mk fun j u hj=>?_,?_⟩
 · simp only [Nat.zero_add]
   simp [World.cell?,k2]
   simpa using hj
 · generalize vs.toList=us at k4
   match us,k4 with
   | [u1,u2],k4=>
     refine ⟨k4.1,⟨k4.2.1.1,?_⟩,trivial⟩
     have e:u2=wv:=k4.2.1.2.1
     subst e
     obtain ⟨ad,cap,e8,h8,h9,h10⟩:=ZL k5
     refine ⟨ad,cap,e8,h8,h9,?_⟩
     rcases h10 with h10 | ⟨b',rfl,h11,h12⟩
     · exact .inl (List.eq_nil_of_length_eq_zero h10)
     · have hb':f b':=(e1 b').2 (.inr ((e4 b').2 (.inl ((k7 b').2 h11))))
       exact .inr ⟨b',0,xs,rfl,hf b' hb',hb b' hb',h12,PVs.mono (Ev.less w hle) k6⟩
theorem Zoz (n:Nat) (x:List Int) (i:Int):FnP Tryz.prog 283 [Zsk n x,.int .i64 i] (.bool (decide (i ∈ x))):=fun w y vs hy hv=>by
 match vs,hv with
 | u :: us,hv=>
   obtain ⟨ws,h1,h2⟩:=hv.1
   rw [← h1.in i]
   exact Zpr n ws h1.ok i w y (u :: us) hy ⟨h2,hv.2⟩
theorem ZjH (b n:Nat) (x:List Int) (i:Int) (on:Bool):FnG Tryz.prog 304 1 [.is (.pointer (some ⟨b,0,none⟩)),.int .i64 i,.bool on] [Zgc n x (.pointer (some ⟨b,0,none⟩))] .any (fun _=>[Zgc n (putL x n i on) (.pointer (some ⟨b,0,none⟩))]):=fun w F vs hw hle hv hp=>by
 obtain ⟨ws,h1,h2⟩:=hp 0 _ rfl
 refine (Zr9 b n ws i on w F vs hw hle hv (fun i k hi=>by
   match i,hi with
   | 0,hi=>simp at hi;subst hi;exact h2)).mono ?_
 rintro e w' ⟨u,F',rfl,a1,a2,a3,a4,a5⟩
 refine ⟨u,F',rfl,a1,a2,a3,trivial,fun j k hj=>?_⟩
 match j,hj with
 | 0,hj=>
   simp at hj;subst hj
   exact ⟨_,h1.set i on,a5 0 _ rfl⟩
theorem ZoQ (m:Int):FnG Tryz.prog 237 1 [.int .i64 m] [HP.star []] PV.ptr (fun v=>[Zgc (rowN m) [] v]):=fun w F vs hw hle hv hp=>by
 refine (Zrs m w F vs hw hle hv hp).mono ?_
 rintro e w' ⟨u,F',rfl,a1,a2,a3,a4,a5⟩
 refine ⟨u,F',rfl,a1,a2,a3,a4,fun i k hi=>?_⟩
 match i,hi with
 | 0,hi=>simp at hi;subst hi;exact ⟨_,ZaJ.zero m,a5 0 _ rfl⟩
end Go.Proofs.YtdpkkdigojkpaaaGreat
