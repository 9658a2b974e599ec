import Derived.Test.YtmlmfpikncogpaaGreatL44
namespace Go.Proofs.YtmlmfpikncogpaaGreat
open Go.RowKit
set_option linter.unusedSimpArgs false
set_option linter.unusedVariables false
set_option maxRecDepth 100000
set_option maxHeartbeats 16000000
theorem xX {f:Nat->Int} {x:Int} {s:Nat} (a:s<8):(fB f).setIfInBounds s (I x)=fB (upd f s x):=by
 have h:s=0\/s=1\/s=2\/s=3\/s=4\/s=5\/s=6\/s=7:=by omega
 rcases h with rfl | rfl | rfl | rfl | rfl | rfl | rfl | rfl<;>rfl
theorem CI (a b:List UInt8):((⟨a.toArray⟩:ByteArray)++⟨b.toArray⟩).data.toList=a++b:=by rw[ByteArray.data_append];simp
theorem oH {P:Program} {w:World} {d:Array Oper} {rest:List Oper} {o:Oper} {a:Act} {Q:Exit->Act->World->Prop} (k:Region.wanted o (yielded d a.tmps)=true) (f b:TypeId) (x:Operand) (A:o.op=.convert f b x) (e:TypeId)
 (B:P.underlying f=some .string) (u:P.underlying b=some (.slice e)) (v:P.underlying e=some (.int .u8)) (s:ByteArray) (C:a.eval x=.string s) (l:List UInt8) (q:s.data.toList=l) (n:Nat) (z:l.length=n) (i:n<=maxLen)
 (h:∀g c w',Z (w.heap.size<=g)->Z (lO w' g e n c l)->Z (aa [] w w')->n<=c->c<=9223372036854775807->wpList P d Q rest (a.put o.dst (.slice (V g) n c)) w'):wpList P d Q (o::rest) a w:=by
  refine aO k fun K t=>?_;have j:s.size=n:=by rw[<-z,<-q];rfl
  unfold Oper.wp execOp;simp only[A,C,DM,DZ,DH,Lib.run_convert_string_bytes w f b e s B u v];have p:=lO.new w e s (by omega);rw[q,j] at p;rw[j];have r:=grownCap_ge w n 0 e;have m:=grownCap_le_maxLen w n 0 e i;unfold maxLen at m;exact t _ _ (h _ _ _ (bZ (C9 _)) (bZ p) (bZ ⟨rfl,rfl,rfl,by rw[Lib.bytesWorld_size];omega,fun g y _=>Lib.bytesWorld_at_old w e s g y⟩) r m)
def io (w:World) (x c d g:Nat) (s:Dk.St) (ts:List TS) (f:Nat->Int) (ep:Nat) (L:List UInt8) (i k:Nat) (a:Int) (l:List Chg) (e:Ending) (w':World):Prop:=
 (∃h,di ts f L.length k a l=(h,none)/\e=.returned (I h)/\Z (aa [] w w'))\/
 (∃b D q,di ts f L.length k a l=(0,some b)/\D=L.drop (59*(L.length/59))++Wa.enc (jw k a l)/\q=Wa.wrs s (31+L.length/59) ep D.length D/\e=.returned (I q.2)/\Z (aa [x,g,c,d] w w')/\Z (Dk.aZ w' c d q.1)/\
  (q.2=0->Z (cx (fun y=>w.heap.size<=y) w' x c d g q.1 b (upd f k a) ep (L++Wa.enc (jw k a l)) (i+1))))
theorem yW {lo:Nat->Prop} (w:World) (x T bs X:Nat) (s:Dk.St) (ts:List TS) (f:Nat->Int) (ep:Nat) (L:List UInt8) (rc:Nat) (h:cx lo w x T bs X s ts f ep L rc) (hg:Gd 52 ts) (fr:s.n=60) (cj:f9 f) (k:Nat) (hk:k<8) (z:Int) (fn: -9223372036854775808<=z/\z<9223372036854775808)
 (lA:Option Addr) (l:List Chg) (m d:Nat) (hl:l.length=m) (hm:m<=6) (hC:iC w [] lA l) (b5:∀c∈l,c.old.length<=10/\c.new.length<=10/\(∀v∈c.old,v.fits)/\(∀v∈c.new,v.fits)) (gs:0<=s.writes) (hw:s.writes<=800000) (gk:rc+1<=1000000):
 Calls Tryz.prog 14 #[.pointer (V x),I (k:Int),I z,.slice lA m d] w (io w x T bs X s ts f ep L rc k z l):=by
  have ac:x≠T/\x≠bs/\x≠X:=by
   obtain⟨st,F,hB,_⟩:=h.ex;obtain⟨A,c,dr,_⟩:=h.log.ex;exact⟨hB.ne_ h.d.d (by decide),hB.ne_ h.d.m (by decide),hB.ne_ dr (by decide)⟩
  have c0:=h.log;have ho:L.length<=1711:=h.log.len;obtain⟨st,F,hB,hS,hu,hv,hx,hz,_⟩:=h.ex;have hD:=h.d;have ek:Z (∀W,aa [] w W->Calls Tryz.prog 36 #[.pointer (V st)] W (jc W ts)):=bZ (fun W kk=>rR W st ts F (hS.keep kk (by simp)) (hg.enc (by decide)) (fun t ht=>Dc (hg.2 t ht).len (by decide)));have HC:Z (∀W,aa [] w W->∀i,W.cell? (U x i)=#[.pointer (V T),I 0,I 1,I 2,I 3,I 17,I 14,I 31,I 29,.pointer (V st),I (f 0),I (f 1),I (f 2),I (f 3),I (f 4),I (f 5),I (f 6),I (f 7),.int .u32 (ep:Int),.pointer (V X)][i]?):=bZ (fun W kk=>(hB.keep kk (by simp)).cell);have yk:w.cell? (U x (10+k))=some (I (f k)):=by rw[hB.cell];exact mB hk
  have f1:Z (∀W F1,aa [] w W->(∀y∈F1,w.heap.size<=y)->iC W F1 lA l):=bZ (fun W F1 kk hF=>hC.shift kk (by simp) (fun y C=>.inr (hF y C)));have hh:((8:Int)<=(k:Int))=False:=eq_false (by omega);have hf:((k:Int)<0)=False:=eq_false (by omega);have hs:(k:Int)<8:=by omega
  replace hB:=bZ hB;replace hS:=bZ hS;replace hD:=bZ hD;replace c0:=bZ c0;replace hg:=bZ hg;replace hl:=bZ hl;replace b5:=bZ b5;replace cj:=bZ cj;replace ac:=bZ ac;clear h hC;by_cases h1:z<=f k
  ·have J:Z (io w x T bs X s ts f ep L rc k z l (.returned (I 1)) w):=bZ (.inl ⟨1,by unfold di;rw[if_pos h1],rfl,bZ (aa.refl _ _)⟩);go_enter Tryz.func14,Tryz.ntmps14;go_wp2_with fail;go_ret;exact J.o
  have hn:(z<=f k)=False:=eq_false h1;have g0:decide (z<=f k)=false:=decide_eq_false h1;go_enter Tryz.func14,Tryz.ntmps14;go_wp2_with fail;clear yk g0;go_cut [9,10] (fun v9 gv wx=>∃E g F1,v9=.pointer (V E)/\gv=.pointer (V g)/\Z (Blk wx g 90 (fB f))/\Z (cu wx E ts F1)/\Z (aa [] w wx)/\Z (∀y∈F1,w.heap.size<=y)/\Z (g∉F1)/\Z (w.heap.size<=g))
  case first=>
   refine ad (S:=(fun w':World=>∀i,w'.cell? (U x i)=#[.pointer (V T),I 0,I 1,I 2,I 3,I 17,I 14,I 31,I 29,.pointer (V st),I (f 0),I (f 1),I (f 2),I (f 3),I (f 4),I (f 5),I (f 6),I (f 7),.int .u32 (ep:Int),.pointer (V X)][i]?)) (n:=12) (by kernel_rfl) ?_;have p:Z (aa [] w w.drew):=bZ (aa.refl [] w).drew;have u:=HC.o w.drew p.o;generalize w.drew=wd at*;refine ord [0,1,2,3,5,6,7,8] ?_
   iterate 8 (refine tq u ?_;try simp only[PT,Y1,Y2,Y3])
   refine av ?_;refine cK (i:=4) (j:=9) rfl rfl (by kernel_rfl) (fun K B=>?_) (fun K B=>?_)
   ·dsimp only[Y1,Y2,Y3];go_simp;refine(ek.o wd p.o).mono ?_;rintro e w4 ⟨E,F1,rfl,b9,c7,a3⟩
    try (replace Zb:=bZ (Zb.o.keep c7.o (by simp)))
    have bn:Z (∀y∈F1,w.heap.size<=y):=bZ (fun y C=>Dc p.o.size (a3.o y C))
    try (have a9:Z (gz∉F1):=bZ (fun h=>by have:=a3.o gz h;have:=c6.o;omega))
    replace p:=bZ (p.o.trans c7.o);have u:=HC.o w4 p.o;refine B _ _ (.inr u) ?_;clear B K
    try simp only[PT,Y1,Y2,Y3]
    refine J1 9 fun K B=>?_;dsimp only[Y1,Y2,Y3];go_simp;obtain⟨gz,P⟩:∃g,g=w4.heap.size:=⟨_,rfl⟩;have c5:Z (w.heap.size<=gz):=bZ (by rw[P];exact p.o.size);have Zb:=bZ (Blk.new w4 90 #[I 0,I 0,I 0,I 0,I 0,I 0,I 0,I 0]);have a9:Z (gz∉F1):=bZ (fun h=>by have:=b9.o.lt gz h;omega);replace b9:=bZ (b9.o.keep ((aa.refl [] w4).alloc (.cells #[I 0,I 0,I 0,I 0,I 0,I 0,I 0,I 0] 90)) (by simp));have c6:Z (gz<(w4.alloc (.cells #[I 0,I 0,I 0,I 0,I 0,I 0,I 0,I 0] 90)).heap.size):=bZ (by rw[P];simp);replace p:=bZ (p.o.alloc (.cells #[I 0,I 0,I 0,I 0,I 0,I 0,I 0,I 0] 90));have u:=HC.o _ p.o;refine B _ _ (.inr u) ?_;clear B K;rw[<-P] at Zb ⊢;clear P;generalize w4.alloc (.cells #[I 0,I 0,I 0,I 0,I 0,I 0,I 0,I 0] 90)=wz at*
    try simp only[PT,Y1,Y2,Y3]
    refine ord [10] ?_
    (refine tq u ?_;try simp only[PT,Y1,Y2,Y3])
    refine av ?_;refine J1 11 fun K B=>?_;dsimp only[Y1,Y2,Y3];rw[if_pos (by rfl)];refine bJ 90 (.tmp 10) (.tmp 37) (by rfl) gz (by rfl) 90 #[I 0,I 0,I 0,I 0,I 0,I 0,I 0,I 0].toList (fB f).toList (by rfl) Zb.o (by kernel_rfl) (by rfl) (by simp[fB,Value.oneCell']) ?_;intro w8 C8 k8;have e0:Z (cu w8 E ts F1):=bZ (b9.o.keep k8 (fun y C hm=>by simp at C;subst C;exact a9.o hm));replace p:=bZ (p.o.more k8 (fun y C=>by simp at C;subst C;exact .inr c5.o));have u:=HC.o _ p.o;clear k8 Zb;refine B _ _ (.inr u) ?_;clear B K
    try simp only[PT,Y1,Y2,Y3]
    refine JD ?_;go_wp2_with fail;go_meet;exact⟨E,gz,F1,rfl,rfl,C8,e0,p,bn,a9,c5⟩
   dsimp only[Y1,Y2,Y3];go_simp;obtain⟨gz,P⟩:∃g,g=wd.heap.size:=⟨_,rfl⟩;have c5:Z (w.heap.size<=gz):=bZ (by rw[P];exact p.o.size);have Zb:=bZ (Blk.new wd 90 #[I 0,I 0,I 0,I 0,I 0,I 0,I 0,I 0]);have c6:Z (gz<(wd.alloc (.cells #[I 0,I 0,I 0,I 0,I 0,I 0,I 0,I 0] 90)).heap.size):=bZ (by rw[P];simp);replace p:=bZ (p.o.alloc (.cells #[I 0,I 0,I 0,I 0,I 0,I 0,I 0,I 0] 90));have u:=HC.o _ p.o;refine B _ _ (.inr u) ?_;clear B K;rw[<-P] at Zb ⊢;clear P;generalize wd.alloc (.cells #[I 0,I 0,I 0,I 0,I 0,I 0,I 0,I 0] 90)=wz at*
   try simp only[PT,Y1,Y2,Y3]
   refine J1 4 fun K B=>?_;dsimp only[Y1,Y2,Y3];go_simp;refine(ek.o wz p.o).mono ?_;rintro e w4 ⟨E,F1,rfl,b9,c7,a3⟩
   try (replace Zb:=bZ (Zb.o.keep c7.o (by simp)))
   have bn:Z (∀y∈F1,w.heap.size<=y):=bZ (fun y C=>Dc p.o.size (a3.o y C))
   try (have a9:Z (gz∉F1):=bZ (fun h=>by have:=a3.o gz h;have:=c6.o;omega))
   replace p:=bZ (p.o.trans c7.o);have u:=HC.o w4 p.o;refine B _ _ (.inr u) ?_;clear B K
   try simp only[PT,Y1,Y2,Y3]
   refine ord [10] ?_
   (refine tq u ?_;try simp only[PT,Y1,Y2,Y3])
   refine av ?_;refine J1 11 fun K B=>?_;dsimp only[Y1,Y2,Y3];rw[if_pos (by rfl)];refine bJ 90 (.tmp 10) (.tmp 37) (by rfl) gz (by rfl) 90 #[I 0,I 0,I 0,I 0,I 0,I 0,I 0,I 0].toList (fB f).toList (by rfl) Zb.o (by kernel_rfl) (by rfl) (by simp[fB,Value.oneCell']) ?_;intro w8 C8 k8;have e0:Z (cu w8 E ts F1):=bZ (b9.o.keep k8 (fun y C hm=>by simp at C;subst C;exact a9.o hm));replace p:=bZ (p.o.more k8 (fun y C=>by simp at C;subst C;exact .inr c5.o));have u:=HC.o _ p.o;clear k8 Zb;refine B _ _ (.inr u) ?_;clear B K
   try simp only[PT,Y1,Y2,Y3]
   refine JD ?_;go_wp2_with fail;go_meet;exact⟨E,gz,F1,rfl,rfl,C8,e0,p,bn,a9,c5⟩
  obtain⟨E,g,F1,rfl,rfl,dl,fc,cb,a3,a9,fk⟩:=hcut;have HA:=bZ (ol _ E ts F1 fc.o hg.o lA l m d hl.o (by omega) (f1.o _ F1 cb.o a3.o) (fun c hc=>by have:=b5.o c hc;exact⟨by omega,by omega,this.2.2.1,this.2.2.2⟩));cases Y:aQ ts l with
  | none=>
   have he:Z (di ts f L.length k z l=(1,none)):=bZ (by unfold di;rw[if_neg (by omega),Y]);replace Y:=bZ Y;go_wp2_with (go_at_call 37;refine HA.o.mono ?_;rintro e w4 ⟨cc,hr⟩;obtain⟨_,rfl⟩:=hr.resolve_right (fun ⟨a6,F',h,_⟩=>by rw[Y.o] at h;cases h);have J:Z (io w x T bs X s ts f ep L rc k z l (.returned (I 1)) w4):=bZ (.inl ⟨1,he.o,rfl,bZ (cb.o.more cc.o (fun y C=>.inr (a3.o y C)))⟩);clear hr);go_ret;exact J.o
  | some a6=>
   replace Y:=bZ Y;go_upto_region 6 with (go_at_call 37;refine HA.o.mono ?_;rintro e w4 ⟨cc,hr⟩;obtain⟨gt,F2,d0,rfl,fd,f3⟩:=hr.resolve_left (fun h=>by rw[Y.o] at h;cases h.1);obtain rfl:a6=gt:=(by have:=Y.o;rw[d0] at this;injection this with this;exact this.symm);clear hr d0);have b8:=dl.o.keep cc.o a9.o;have u1:w4.cell? (U g k)=some (I (f k)):=by rw[b8.cell];exact zX hk
   have u2:=b8.frozen k;have d5:Z (aa [] w w4):=bZ (cb.o.more cc.o (fun y C=>.inr (a3.o y C)));have bp:Z (∀y∈F2,w.heap.size<=y/\y≠g):=bZ (fun y C=>by
    have h3:=cb.o.size;have h4:=dl.o.lt;rcases f3.o y C with h5 | h5
    ·exact⟨a3.o y h5,fun h6=>a9.o (h6▸h5)⟩
    exact⟨by omega,by omega⟩)
   replace b8:=bZ b8;obtain⟨w5,cr⟩:∃w5,w5=w4.setCell (U g k) (I z):=⟨_,rfl⟩;have dn:Z (Blk w5 g 90 (fB (upd f k z))):=bZ (by rw[cr,<-xX hk];exact b8.o.set_ k (I z));have cd:aa [g] w4 w5:=by rw[cr];exact(aa.refl _ _).setCell (.inl (by simp)) _
   have fe:Z (cu w5 E a6 F2):=bZ (fd.o.keep cd (fun y C hm=>by simp at C;subst C;exact(bp.o y hm).2 rfl));have M:Z (aa [] w w5):=bZ (d5.o.more cd (fun y C=>by simp at C;subst C;exact .inr fk.o));clear HA dl fc cb a3 a9 cc fd f3 cd b8 d5;go_upto_region 7 with fail;rw[<-cr];clear cr u1 u2;obtain⟨b,c1⟩:∃b,b=upd f k z:=⟨_,rfl⟩;rw[<-c1] at dn;have b2:∀j,j<8-> -9223372036854775808<=b j/\b j<9223372036854775808:=fun j hj=>by rw[c1];unfold upd;split;exact fn;have:=cj.o j hj;omega
   have e8:∀c∈l,c.ok:=lM hg.o Y.o (fun c hc=>by have:=b5.o c hc;omega);have e3:=gS hg.o Y.o;rw[hl.o] at e3;have c4:Gd 58 a6:=e3.mono (by omega);have en:Z (∀W,Calls Tryz.prog 38 #[I (k:Int)] W fun e w'=>e=.returned (.string ⟨(Cod.num (k:Int)).toArray⟩)/\Z (aa [] W w')):=bZ (fun W=>dB W (k:Int) (by omega));have er:Z (∀W,Calls Tryz.prog 38 #[I z] W fun e w'=>e=.returned (.string ⟨(Cod.num z).toArray⟩)/\Z (aa [] W w')):=bZ (fun W=>dB W z fn);have d7:Z (((⟨(Cod.num (k:Int)).toArray⟩:ByteArray)++⟨(Cod.num z).toArray⟩).data.toList=Cod.num (k:Int)++Cod.num z):=bZ (CI _ _);have d6:Z ((Cod.num (k:Int)++Cod.num z).length=16):=bZ (by rw[CU,Cod.ag,Cod.ag]);have HE:Z (∀W,aa [] w W->Calls Tryz.prog 39 #[.slice lA m d] W (im W (cM l))):=bZ (fun W kk=>ta W lA l m d hl.o (fun j x hj=>by obtain⟨g,off,Ao,co,An,cn,h0,_,h1⟩:=f1.o W [] kk (by simp) j x hj;exact⟨g,off,Ao,co,An,cn,h0,h1⟩) (by omega) e8);have e2:(cM l).length<=2000000:=by
    have:=fa l e8;unfold cM;rw[CU,Cod.ag];have:=hl.o;omega
   have e1:8<=(cM l).length:=by unfold cM;rw[CU,Cod.ag];omega
   obtain⟨q,hq⟩:∃q,(cM l).length=q:=⟨_,rfl⟩;rw[hq] at e2 e1;obtain⟨r,hr⟩:∃r,16+q=r:=⟨_,rfl⟩;replace hr:=bZ hr;replace hq:=bZ hq;replace c1:=bZ c1;replace b2:=bZ b2;replace c4:=bZ c4;have hp:(9223372036854775807<(Cod.num (k:Int)).length+(Cod.num z).length)=False:=eq_false (by rw[Cod.ag,Cod.ag];decide);clear e8 e3;go_wp2_with (first
    | (go_at_call 38;(with_reducible refine(en.o _).mono ?_);rintro e w6 ⟨rfl,e6⟩)
    | (go_at_call 38;(with_reducible refine(er.o _).mono ?_);rintro e w7 ⟨rfl,e7⟩)
    | (refine oH rfl 9 79 (.tmp 49) rfl 5 Tryz.underlying9 Tryz.underlying79 Tryz.underlying5 _ rfl _ d7.o 16 d6.o (by unfold maxLen;decide) ?_;intro g8 c8 w8 gb f4 fl g6 fi;have b6:Z (aa [] w5 w8):=bZ (e6.o.trans (e7.o.trans fl.o)))
    | (go_at_call 39;refine(HE.o w8 (M.o.trans b6.o)).mono ?_;rintro e w9 ⟨A9,n9,c9,rfl,ge,ev,cq,g7⟩;obtain rfl:q=n9:=hq.o.symm.trans ge;have f5:=bZ (f4.o.keep cq.o (by simp)))
    | (at_builtin;refine l9 rfl (.tmp 51) (.tmp 53) 79 rfl 5 Tryz.underlying79 cY g8 16 c8 _ (cM l) rfl f5.o A9 q c9 rfl hq.o (by omega) ev.o (by omega) ?_;intro da fy H cv d1 g4 d3 d2;rw[hr.o] at d1 ⊢))
   have c3:Z (w5.heap.size<=g8):=bZ (Dc (e6.o.trans e7.o).size gb.o);have b0:Z (aa [] w5 H):=bZ ((b6.o.trans cq.o).more d3.o (fun y C=>by simp at C;subst C;exact .inr c3.o));have g1:Z (Bts H da (jw k z l)):=bZ (by have:=cv.o;unfold jw;rwa [Dd] at this);have gl:Z ((jw k z l).length=r):=bZ (by rw[ni,hq.o];exact hr.o);have h7:Z (∀a,da=some a->w.heap.size<=a.block):=bZ (fun a ha=>by
    have h5:=M.o.size;have h8:=c3.o;have h9:=(b6.o.trans cq.o).size;rcases d2.o with h | h<;>rw[ha] at h<;>simp[fb] at h<;>omega)
   clear d7 d6 ev g7 g6 fi f4 f5 cv d3 d2 cq fl b6 c3 en er HE e6 e7;have hd:24<=r/\r<=2000016:=by have:=hr.o;omega
   have a8:Z (∀W,aa [] w5 W->(∀i,W.cell? (U x i)=#[.pointer (V T),I 0,I 1,I 2,I 3,I 17,I 14,I 31,I 29,.pointer (V st),I (f 0),I (f 1),I (f 2),I (f 3),I (f 4),I (f 5),I (f 6),I (f 7),.int .u32 (ep:Int),.pointer (V X)][i]?)/\∀i,W.cell? (U g i)=#[I (b 0),I (b 1),I (b 2),I (b 3),I (b 4),I (b 5),I (b 6),I (b 7)][i]?):=bZ (fun W kk=>⟨HC.o W (M.o.trans kk),(dn.o.keep kk (by simp)).cell⟩);obtain⟨vF,cl⟩:∃vF,vF=Wa.iO (59*((29:Nat):Int) - (L.length:Nat)):=⟨_,rfl⟩;have db:Z (∀W,aa [] w5 W->Calls Tryz.prog 40 #[.pointer (V X)] W fun e w'=>e=.returned (I vF)/\∃m,w'=W.drewN m):=bZ (fun W kk=>by
    rw[cl];exact Wa.rE [] W X T 31 29 ep rc L (c0.o.keep (M.o.trans kk) (by simp) (fun _ _ _ _=>by simp)))
   have an:vF<(r:Int)↔1707 - (L.length:Int)<(r:Int):=by rw[cl];unfold Wa.iO;omega
   have cm:¬(vF<(r:Int))->(r:Int)<=Wa.iO (59*((29:Nat):Int) - (L.length:Nat)):=fun h=>by rw[<-cl];omega
   replace cl:=bZ cl;replace cm:=bZ cm;by_cases ap:vF<(r:Int)
   ·have he:Z (di ts f L.length k z l=(16,none)):=bZ (by unfold di;rw[if_neg (by omega),Y.o];dsimp only;rw[if_pos (.inl (by rw[hq.o,hr.o];exact an.1 ap))]);replace an:=bZ an;refine ad (S:=(fun w':World=>(∀i,w'.cell? (U x i)=#[.pointer (V T),I 0,I 1,I 2,I 3,I 17,I 14,I 31,I 29,.pointer (V st),I (f 0),I (f 1),I (f 2),I (f 3),I (f 4),I (f 5),I (f 6),I (f 7),.int .u32 (ep:Int),.pointer (V X)][i]?)/\∀i,w'.cell? (U g i)=#[I (b 0),I (b 1),I (b 2),I (b 3),I (b 4),I (b 5),I (b 6),I (b 7)][i]?)) (n:=21) (by kernel_rfl) ?_;have p:Z (aa [] w5 H.drew):=bZ b0.o.drew;have Ky:Z (aa [] H H.drew):=bZ (aa.refl [] H).drew;have u:=a8.o H.drew p.o;generalize H.drew=wd at*;refine ord [0,1,2,3,4,5] ?_
    iterate 6 (first | (refine tu u ?_;try simp only[PT,Y1,Y2,Y3]) | (refine tq u ?_;try simp only[PT,Y1,Y2,Y3]))
    refine av ?_;refine J1 6 fun K B=>?_;dsimp only[Y1,Y2,Y3];go_simp;refine(db.o wd p.o).mono ?_;rintro e a7 ⟨rfl,cp,a1⟩;have a2:aa [] wd a7:=by rw[a1];exact(aa.refl [] wd).drewN cp
    clear a1;replace p:=bZ (p.o.trans a2);replace Ky:=bZ (Ky.o.trans a2);clear a2;have u:=a8.o a7 p.o;refine B _ _ (.inr u) ?_;clear B K
    try simp only[PT,Y1,Y2,Y3]
    refine ord [7,8,9,10,13,14,15,16,11,12,17,18,19,20] ?_
    iterate 14 (first | (refine tu u ?_;try simp only[PT,Y1,Y2,Y3]) | (refine tq u ?_;try simp only[PT,Y1,Y2,Y3]))
    refine av ?_;refine JD ?_;clear u;have J:Z (io w x T bs X s ts f ep L rc k z l (.returned (I 16)) a7):=bZ (.inl ⟨16,he.o,rfl,bZ (M.o.trans p.o)⟩);go_wp2_with fail;go_ret;exact J.o
   have g2:decide (vF<(r:Int))=false:=decide_eq_false ap;have g3:(vF<(r:Int))=False:=eq_false ap;have e9:Z (¬(1707 - (L.length:Int)<(r:Int))):=bZ (fun h=>ap (an.2 h));replace an:=bZ an;obtain⟨nb,ch⟩:∃nb,(stB a6 b).length=nb:=⟨_,rfl⟩;have b7:nb=64+(aN a6).length:=by rw[<-ch];unfold stB;rw[CU,eX]
   have ct:Z (∀W,aa [] w5 W->Calls Tryz.prog 41 #[.agg #[I (b 0),I (b 1),I (b 2),I (b 3),I (b 4),I (b 5),I (b 6),I (b 7)],.pointer (V E)] W (bx W none (stB a6 b))):=bZ (fun W kk=>nG W b b2.o E a6 F2 (fe.o.keep kk (by simp)) (c4.o.enc (by decide)) (fun t ht=>Dc (c4.o.2 t ht).len (by decide)));have ee:Z (∀W,aa [] w5 W->Calls Tryz.prog 28 #[.pointer (V T)] W fun e w'=>e=.returned (I 60)/\W=w'):=bZ (fun W kk=>by have:=Dk.cU W T bs s (hD.o.keep (M.o.trans kk) (by simp) (by simp));rw[fr] at this;exact this);have eg:Z (∀W,Calls Tryz.prog 42 #[I 60] W fun e w'=>e=.returned (I 896)/\aa [] W w'):=bZ (fun W=>Sn.AG W 60);have hb:nb<=2000000:=by have:=c4.o.enc (by decide);omega
   replace ch:=bZ ch;replace b7:=bZ b7;by_cases c2:(896:Int)<(nb:Int)
   ·have he:Z (di ts f L.length k z l=(16,none)):=bZ (by unfold di;rw[if_neg (by omega),Y.o];dsimp only;rw[if_pos (.inr (by have:=b7.o;omega))]);refine ad (S:=(fun w':World=>(∀i,w'.cell? (U x i)=#[.pointer (V T),I 0,I 1,I 2,I 3,I 17,I 14,I 31,I 29,.pointer (V st),I (f 0),I (f 1),I (f 2),I (f 3),I (f 4),I (f 5),I (f 6),I (f 7),.int .u32 (ep:Int),.pointer (V X)][i]?)/\∀i,w'.cell? (U g i)=#[I (b 0),I (b 1),I (b 2),I (b 3),I (b 4),I (b 5),I (b 6),I (b 7)][i]?)) (n:=21) (by kernel_rfl) ?_;have p:Z (aa [] w5 H.drew):=bZ b0.o.drew;have Ky:Z (aa [] H H.drew):=bZ (aa.refl [] H).drew;have u:=a8.o H.drew p.o;generalize H.drew=wd at*;refine ord [0,1,2,3,4,5] ?_
    iterate 6 (first | (refine tu u ?_;try simp only[PT,Y1,Y2,Y3]) | (refine tq u ?_;try simp only[PT,Y1,Y2,Y3]))
    refine av ?_;refine J1 6 fun K B=>?_;dsimp only[Y1,Y2,Y3];go_simp;refine(db.o wd p.o).mono ?_;rintro e a7 ⟨rfl,cp,a1⟩;have a2:aa [] wd a7:=by rw[a1];exact(aa.refl [] wd).drewN cp
    clear a1;replace p:=bZ (p.o.trans a2);replace Ky:=bZ (Ky.o.trans a2);clear a2;have u:=a8.o a7 p.o;refine B _ _ (.inr u) ?_;clear B K
    try simp only[PT,Y1,Y2,Y3]
    refine ord [7,8,9,10,13,14,15,16] ?_
    iterate 8 (first | (refine tu u ?_;try simp only[PT,Y1,Y2,Y3]) | (refine tq u ?_;try simp only[PT,Y1,Y2,Y3]))
    refine av ?_;refine J1 11 fun K B=>?_;dsimp only[Y1,Y2,Y3];go_simp;refine(ct.o a7 p.o).mono ?_;rintro e b3 ⟨fx,ec,fz,rfl,O⟩;obtain rfl:nb=ec:=ch.o.symm.trans O.o.len;replace p:=bZ (p.o.trans O.o.kp);replace Ky:=bZ (Ky.o.trans O.o.kp);have u:=a8.o b3 p.o;refine B _ _ (.inr u) ?_;clear B K O
    try simp only[PT,Y1,Y2,Y3]
    refine ord [12] ?_
    (first | (refine tu u ?_;try simp only[PT,Y1,Y2,Y3]) | (refine tq u ?_;try simp only[PT,Y1,Y2,Y3]))
    refine av ?_;refine J1 17 fun K B=>?_;dsimp only[Y1,Y2,Y3];go_simp;refine(ee.o b3 p.o).mono ?_;rintro e gx ⟨rfl,rfl⟩;refine B _ _ (.inr u) ?_;clear B K
    try simp only[PT,Y1,Y2,Y3]
    refine J1 18 fun K B=>?_;dsimp only[Y1,Y2,Y3];go_simp;refine(eg.o b3).mono ?_;rintro e ar ⟨rfl,a4⟩;replace p:=bZ (p.o.trans a4);replace Ky:=bZ (Ky.o.trans a4);clear a4;have u:=a8.o ar p.o;refine B _ _ (.inr u) ?_;clear B K
    try simp only[PT,Y1,Y2,Y3]
    refine ord [19,20] ?_
    iterate 2 (first | (refine tu u ?_;try simp only[PT,Y1,Y2,Y3]) | (refine tq u ?_;try simp only[PT,Y1,Y2,Y3]))
    refine av ?_;refine JD ?_;clear u;have J:Z (io w x T bs X s ts f ep L rc k z l (.returned (I 16)) ar):=bZ (.inl ⟨16,he.o,rfl,bZ (M.o.trans p.o)⟩);go_wp2_with fail;go_ret;exact J.o
   have fs:decide ((896:Int)<(nb:Int))=false:=decide_eq_false c2;have fv:((896:Int)<(nb:Int))=False:=eq_false c2;have he:Z (di ts f L.length k z l=(0,some a6)):=bZ (by unfold di;rw[if_neg (by omega),Y.o];dsimp only;rw[if_neg (fun h=>by rcases h with h | h;exact e9.o (by rw[hq.o,hr.o] at h;exact h);have:=b7.o;omega)]);refine ad (S:=(fun w':World=>(∀i,w'.cell? (U x i)=#[.pointer (V T),I 0,I 1,I 2,I 3,I 17,I 14,I 31,I 29,.pointer (V st),I (f 0),I (f 1),I (f 2),I (f 3),I (f 4),I (f 5),I (f 6),I (f 7),.int .u32 (ep:Int),.pointer (V X)][i]?)/\∀i,w'.cell? (U g i)=#[I (b 0),I (b 1),I (b 2),I (b 3),I (b 4),I (b 5),I (b 6),I (b 7)][i]?)) (n:=21) (by kernel_rfl) ?_;have p:Z (aa [] w5 H.drew):=bZ b0.o.drew;have Ky:Z (aa [] H H.drew):=bZ (aa.refl [] H).drew;have u:=a8.o H.drew p.o;generalize H.drew=wd at*;refine ord [0,1,2,3,4,5] ?_
   iterate 6 (first | (refine tu u ?_;try simp only[PT,Y1,Y2,Y3]) | (refine tq u ?_;try simp only[PT,Y1,Y2,Y3]))
   refine av ?_;refine J1 6 fun K B=>?_;dsimp only[Y1,Y2,Y3];go_simp;refine(db.o wd p.o).mono ?_;rintro e a7 ⟨rfl,cp,a1⟩;have a2:aa [] wd a7:=by rw[a1];exact(aa.refl [] wd).drewN cp
   clear a1;replace p:=bZ (p.o.trans a2);replace Ky:=bZ (Ky.o.trans a2);clear a2;have u:=a8.o a7 p.o;refine B _ _ (.inr u) ?_;clear B K
   try simp only[PT,Y1,Y2,Y3]
   refine ord [7,8,9,10,13,14,15,16] ?_
   iterate 8 (first | (refine tu u ?_;try simp only[PT,Y1,Y2,Y3]) | (refine tq u ?_;try simp only[PT,Y1,Y2,Y3]))
   refine av ?_;refine J1 11 fun K B=>?_;dsimp only[Y1,Y2,Y3];go_simp;refine(ct.o a7 p.o).mono ?_;rintro e b3 ⟨fx,ec,fz,rfl,O⟩;obtain rfl:nb=ec:=ch.o.symm.trans O.o.len;replace p:=bZ (p.o.trans O.o.kp);replace Ky:=bZ (Ky.o.trans O.o.kp);have u:=a8.o b3 p.o;refine B _ _ (.inr u) ?_;clear B K O
   try simp only[PT,Y1,Y2,Y3]
   refine ord [12] ?_
   (first | (refine tu u ?_;try simp only[PT,Y1,Y2,Y3]) | (refine tq u ?_;try simp only[PT,Y1,Y2,Y3]))
   refine av ?_;refine J1 17 fun K B=>?_;dsimp only[Y1,Y2,Y3];go_simp;refine(ee.o b3 p.o).mono ?_;rintro e gx ⟨rfl,rfl⟩;refine B _ _ (.inr u) ?_;clear B K
   try simp only[PT,Y1,Y2,Y3]
   refine J1 18 fun K B=>?_;dsimp only[Y1,Y2,Y3];go_simp;refine(eg.o b3).mono ?_;rintro e ar ⟨rfl,a4⟩;replace p:=bZ (p.o.trans a4);replace Ky:=bZ (Ky.o.trans a4);clear a4;have u:=a8.o ar p.o;refine B _ _ (.inr u) ?_;clear B K
   try simp only[PT,Y1,Y2,Y3]
   refine ord [19,20] ?_
   iterate 2 (first | (refine tu u ?_;try simp only[PT,Y1,Y2,Y3]) | (refine tq u ?_;try simp only[PT,Y1,Y2,Y3]))
   refine av ?_;refine JD ?_;clear u;have bi:=hD.o.keep (M.o.trans p.o) (by simp) (by simp);have bt:=c0.o.keep (M.o.trans p.o) (by simp) (fun _ _ _ _=>by simp);obtain⟨D,bk⟩:∃D,D=L.drop (59*(L.length/59))++Wa.enc (jw k z l):=⟨_,rfl⟩;obtain⟨Q,hQ⟩:∃Q,Q=Wa.wrs s (31+L.length/59) ep D.length D:=⟨_,rfl⟩;have bb:=Wa.AN [] ar X T bs 31 29 ep rc s L (jw k z l) da r fy bi bt gl.o d1 (g1.o.keep Ky.o (by simp)) (cm.o ap) gs hw (by simp) gk;rw[<-bk,<-hQ] at bb;have z5:ar.cell? (U x (5+14))=some (.pointer (V X)):=HC.o ar (M.o.trans p.o) 19;replace bb:=bZ bb;replace bi:=bZ bi;replace bt:=bZ bt;replace bk:=bZ bk;replace hQ:=bZ hQ;have b1:Z (aa [] w ar):=bZ (M.o.trans p.o);by_cases ck:Q.2=0
   ·have gf:(Q.2 !=0)=false:=by simp[ck]
    go_wp2_with (go_at_call 43;refine bb.o.mono ?_;rintro e R ⟨rfl,ak,b4,a0⟩;rw[if_pos ck] at b4;replace ak:=bZ ak;replace b4:=bZ b4;replace a0:=bZ a0);refine ad (S:=(fun w':World=>∀i,w'.cell? (U g i)=#[I (b 0),I (b 1),I (b 2),I (b 3),I (b 4),I (b 5),I (b 6),I (b 7)][i]?)) (n:=10) (by kernel_rfl) ?_;have N:∀y,y=x\/y=X\/y=T\/y=bs->y<w.heap.size:=fun y C=>by
     obtain⟨A,c,dr,_⟩:=c0.o.ex;rcases C with rfl | rfl | rfl | rfl
     ·exact hB.o.lt
     ·exact dr.lt
     ·exact hD.o.d.lt
     exact hD.o.m.lt
    replace N:=bZ N;have e4:Z (g≠x/\g≠X/\g≠T/\g≠bs):=bZ (by
     have h1:=fk.o;exact⟨fun h=>by have:=N.o x (by simp);omega,fun h=>by have:=N.o X (by simp);omega,fun h=>by have:=N.o T (by simp);omega,fun h=>by have:=N.o bs (by simp);omega⟩)
    have bh:=(hB.o.keep b1.o (by simp)).keep a0.o (by simp;exact⟨ac.o.2.2,ac.o.1,ac.o.2.1⟩);have dq:Z (Blk R g 90 (fB b)):=bZ ((dn.o.keep p.o (by simp)).keep a0.o (by simp;exact e4.o.2));have u1:R.drew.cell? (U x 9)=some (.pointer (V st)):=bh.cell 9;have u2:R.drew.frozen? (U x 9)=false:=bh.frozen 9;have ey:Z (Blk R.drew x 93 (dbV T st f ep (.pointer (V X)))):=bZ bh;have ew:Z (Blk R.drew g 90 (fB b)):=dq;have ds:=bZ bh;have e5:Z (aa [] R R.drew):=bZ (aa.refl [] R).drew;have u:∀i,R.drew.cell? (U g i)=#[I (b 0),I (b 1),I (b 2),I (b 3),I (b 4),I (b 5),I (b 6),I (b 7)][i]?:=dq.o.cell;clear bh dq;generalize R.drew=wd at*;refine ord [0,1,2,3,4,5] ?_
    iterate 6 (refine tq u ?_;try simp only[PT,Y1,Y2,Y3])
    refine av ?_;refine J1 6 fun K B=>?_;dsimp only[Y1,Y2,Y3];go_simp;have f0:Z (Blk (wd.setCell (U x 9) (.pointer (V E))) x 93 (dbV T E f ep (.pointer (V X)))):=bZ (ey.o.set_ 9 _);have gc:Z (aa [x] R (wd.setCell (U x 9) (.pointer (V E)))):=bZ (e5.o.nil.setCell (.inl (by simp)) _);have u:∀i,(wd.setCell (U x 9) (.pointer (V E))).cell? (U g i)=#[I (b 0),I (b 1),I (b 2),I (b 3),I (b 4),I (b 5),I (b 6),I (b 7)][i]?:=(ew.o.far e4.o.1 _).cell;refine B _ _ (.inr u) ?_;clear B K u1 u2;generalize wd.setCell (U x 9) (.pointer (V E))=we at*
    try simp only[PT,Y1,Y2,Y3]
    refine ord [7,8] ?_
    iterate 2 (refine tq u ?_;try simp only[PT,Y1,Y2,Y3])
    refine av ?_;refine J1 9 fun K B=>?_;dsimp only[Y1,Y2,Y3];rw[if_pos (by rfl)];refine dG 90 (.tmp 92) (.tmp 88) (by rfl) x 10 (by rfl) 93 (dbV T E f ep (.pointer (V X))).toList (fB b).toList (by rfl) (by simpa using f0.o) (by kernel_rfl) (by simp[dbV,fB]) (by simp[fB,Value.oneCell']) ?_;intro cs es d4;have dc:Z (Blk cs x 93 (dbV T E b ep (.pointer (V X)))):=es;have a5:Z (aa [x] R cs):=bZ (gc.o.trans d4);have u:∀i,cs.cell? (U g i)=#[I (b 0),I (b 1),I (b 2),I (b 3),I (b 4),I (b 5),I (b 6),I (b 7)][i]?:=fun i=>by rw[<-u i];have gd:=block_lt_of_cell (show we.cell? (U g 0)=some (I (b 0)) from u 0);exact d4.cell gd (by simp;exact e4.o.1)
    refine B _ _ (.inr u) ?_;clear B K
    try simp only[PT,Y1,Y2,Y3]
    refine JD ?_;clear u;have J:Z (io w x T bs X s ts f ep L rc k z l (.returned (I 0)) cs):=bZ (.inr ⟨a6,D,Q,he.o,bk.o,hQ.o,by rw[ck],bZ ((b1.o.nil.trans (a0.o.mono (by simp))).trans (a5.o.mono (by simp))),bZ (ak.o.keep a5.o (by simp;exact fun h=>ac.o.1 h.symm) (by simp;exact fun h=>ac.o.2.1 h.symm)),fun _=>bZ (by
     rw[<-c1.o];have ba:∀y,y=x\/y=X\/y=T\/y=bs->y∉F2:=fun y C hm=>by have h1:=N.o y C;have h2:=(bp.o y hm).1;omega
     have f6:=(fe.o.keep p.o (by simp)).keep a0.o (fun y C=>ba y (by simp at C;rcases C with rfl | rfl | rfl<;>simp));exact⟨⟨E,F2,dc.o,f6.keep a5.o (fun y C=>ba y (by simp at C;exact .inl C)),ba x (by simp),ba T (by simp),ba bs (by simp),ba X (by simp),fun y C=>(bp.o y C).1⟩,ak.o.keep a5.o (by simp;exact fun h=>ac.o.1 h.symm) (by simp;exact fun h=>ac.o.2.1 h.symm),
      b4.o.keep a5.o (by simp;exact fun h=>ac.o.2.2 h.symm) (fun g5 hi ga _ hm=>by simp at hm;subst hm;exact(ga.ne_ ds.o (by decide)) rfl)⟩)⟩)
    go_wp2_with fail;go_ret;exact J.o
   have gf:(Q.2 !=0)=true:=by simpa using ck
   go_wp2_with (go_at_call 43;refine bb.o.mono ?_;rintro e R ⟨rfl,ak,_,a0⟩;have J:Z (io w x T bs X s ts f ep L rc k z l (.returned (I Q.2)) R):=bZ (.inr ⟨a6,D,Q,he.o,bk.o,hQ.o,rfl,bZ (b1.o.nil.trans (a0.mono (by simp))),bZ ak,fun h=>absurd h ck⟩));go_ret;exact J.o
end Go.Proofs.YtmlmfpikncogpaaGreat
