/- Stripes that are known: as bytes. -/
import Derived.Test.YtmdkkhnenciknaaSmG
import Derived.Test.YtmdkkhnenciknaaRefCodecLX
namespace Go.Proofs.YtmdkkhnenciknaaI
set_option linter.unusedSimpArgs false
set_option linter.unusedVariables false
open Go

def stB (x : St) : UInt8 := UInt8.ofNat (x.st % 256).toNat
def encSt (x : St) : List UInt8 := stB x :: (encI x.ow ++ encI x.ep ++ encI x.le ++ (encI x.sv.length ++ encInts x.sv))
def encS (L : List St) : List UInt8 := encI L.length ++ (L.map encSt).flatten
theorem encSt_len {x : St} (h : x.ok) : (encSt x).length ≤ 200 := by
  have hm := St.may_iff.1 h.may
  have hep := h.ep
  have hsv : ∀ n ∈ x.sv, -9223372036854775808 ≤ n ∧ n < 9223372036854775808 := fun n hn => by have := hm.2.2.2.2.2.2.2.1 n hn; omega
  have l1 := encI_len (n := x.ow) (by omega) (by omega)
  have l2 := encI_len (n := x.ep) (by omega) (by omega)
  have l3 := encI_len (n := x.le) (by omega) (by omega)
  have l4 := encI_len (n := x.sv.length) (by omega) (by omega)
  have l5 := encInts_len x.sv hsv
  simp only [encSt, List.length_cons, List.length_append]
  omega
theorem encL_len : ∀ {L : List St}, (∀ x ∈ L, x.ok) → (L.map encSt).flatten.length ≤ 200 * L.length
  | [], _ => by simp
  | x :: L, h => by
    have h1 := encSt_len (h x (by simp))
    have h2 := encL_len (L := L) fun y hy => h y (by simp [hy])
    simp only [List.map_cons, List.flatten_cons, List.length_append, List.length_cons]
    omega
theorem Wr.lay0 {b x : List UInt8} (h : b.length + x.length ≤ 65536) : Wr.lay ⟨65536, b, 0⟩ x = ⟨65536, b ++ x, 0⟩ := by
  unfold Wr.lay
  rw [if_neg (by simp), if_neg (by simp only [List.length_append]; omega)]
theorem Wr.byte0 {n : Int} (h0 : 0 ≤ n) (h1 : n ≤ 255) : Wr.byte ⟨65536, [], 0⟩ n = ⟨65536, [UInt8.ofNat (n % 256).toNat], 0⟩ := by
  unfold Wr.byte
  rw [if_neg (by omega), Wr.lay0 (by simp)]; rfl

section
variable (c : Ctx) (hc : HasSmap c) (hC : HasCodec c) {H : IHeap} {K : Value → IHeap → Prop}

include hc hC in
theorem put_ok {q3 : Nat} {v : Value} {acc x : List UInt8} {g : FuncId} {cap : Value} (hq : H.get q3 = some (.cells [v] false)) (hq3 : q3 < H.next) (hv : Grow H (q3 + 1) 1 v (acc.map rowU)) (hx : x ≠ []) (hxl : x.length ≤ 65536) (hacc : acc.length ≤ 10000000)
    (hf : ∀ (pw : Nat) (H' : IHeap) (K' : Value → IHeap → Prop), H.le H' → H.next ≤ pw → IsW H' pw ⟨65536, [], 0⟩ → (∀ H'', IHeap.upd [pw] H' H'' → IsW H'' pw ⟨65536, x, 0⟩ → K' (.tuple #[]) H'') → c.C g [.pointer (some ⟨pw, 0, none⟩), cap] H' K')
    (hK : ∀ v' H', IHeap.keep q3 H H' → q3 < H'.next → Grow H' (q3 + 1) 1 v' ((acc ++ x).map rowU) → H'.get q3 = some (.cells [v'] false) → K (.tuple #[]) H') :
    c.C (c.F n_smap_Map_Text_F1) [.func (.func g) #[] #[cap], .pointer (some ⟨q3, 0, none⟩)] H K := by
  refine c.enter hc.smap_Map_Text_F1 rfl ?_
  simp -implicitDefEqProofs [J0,J1,J2,J3,J4,J5,J6,J7,J8,J9,Ja,Jb,Jc,Jd,Je,Jf,Jg,Jh,Ji,Jj,Jk,Jl,Jm,Jn,Jo,Jp,Jq,Jr,Js,Jt,Ju,Jv,Jw,Jx,Jy,Jz,JA,JB,JC,JD,JE,JF,JG,JH,JI,JJ,JK,JL,JM,JN,JO,JP,stillI,IOp.kind,JQ,JR,JS,JT,JU,JV,JW,JX,JY,JZ,Y0,Y1,Y2,Y3,Y4,Y5,Y6,Y7,Y8,Y9,Ya,Yb,Yc,Yd,Ye,Yf,Yg,Yh,Yi,Yj,Yk,Yl,Ym,Yn,ial,Yo,Yp,Yq,Yr,Ys,Yt,Yu,Yv,ires,iresL,ires1,Yw,Yx,Yy,Yz,YA,YB,bin2,YC,YD,YE,YF,YG,YH,YI,YJ,YK,YL,YM,YN,YO,YP,YQ,YR,un1,shOk,eqL,eq1,fillL,putAt,IHeap.load1,IHeap.loadL,IHeap.storeL,YS,YT,YU,YV,YW,YX,YY,YZ,B0,B1,B2,B3,B4,B5,B6,B7,B8,B9,Ba,Bb,Bc,Bd,Be,Bf,Bg,Bh,Bi,Bj,Bk,Bl,Bm, c_smap_Map_Text_F1]
  refine call_of (NewWriter_ok c hC fun pw H1 hp1 k1 hw1 => ?_)
  rw [show (if (65536 : Int) < (if (0 : Int) > 65536 then 0 else 65536) then (65536 : Int) else (if (0 : Int) > 65536 then 0 else 65536)) = 65536 from by decide] at hw1
  simp -implicitDefEqProofs [J0,J1,J2,J3,J4,J5,J6,J7,J8,J9,Ja,Jb,Jc,Jd,Je,Jf,Jg,Jh,Ji,Jj,Jk,Jl,Jm,Jn,Jo,Jp,Jq,Jr,Js,Jt,Ju,Jv,Jw,Jx,Jy,Jz,JA,JB,JC,JD,JE,JF,JG,JH,JI,JJ,JK,JL,JM,JN,JO,JP,stillI,IOp.kind,JQ,JR,JS,JT,JU,JV,JW,JX,JY,JZ,Y0,Y1,Y2,Y3,Y4,Y5,Y6,Y7,Y8,Y9,Ya,Yb,Yc,Yd,Ye,Yf,Yg,Yh,Yi,Yj,Yk,Yl,Ym,Yn,ial,Yo,Yp,Yq,Yr,Ys,Yt,Yu,Yv,ires,iresL,ires1,Yw,Yx,Yy,Yz,YA,YB,bin2,YC,YD,YE,YF,YG,YH,YI,YJ,YK,YL,YM,YN,YO,YP,YQ,YR,un1,shOk,eqL,eq1,fillL,putAt,IHeap.load1,IHeap.loadL,IHeap.storeL,YS,YT,YU,YV,YW,YX,YY,YZ,B0,B1,B2,B3,B4,B5,B6,B7,B8,B9,Ba,Bb,Bc,Bd,Be,Bf,Bg,Bh,Bi,Bj,Bk,Bl,Bm]
  refine call_of (hf pw H1 _ k1 hp1 hw1 fun H2 u2 hw2 => ?_)
  have k2 : H.le H2 := k1.updLe u2 (by simp; omega)
  simp -implicitDefEqProofs [J0,J1,J2,J3,J4,J5,J6,J7,J8,J9,Ja,Jb,Jc,Jd,Je,Jf,Jg,Jh,Ji,Jj,Jk,Jl,Jm,Jn,Jo,Jp,Jq,Jr,Js,Jt,Ju,Jv,Jw,Jx,Jy,Jz,JA,JB,JC,JD,JE,JF,JG,JH,JI,JJ,JK,JL,JM,JN,JO,JP,stillI,IOp.kind,JQ,JR,JS,JT,JU,JV,JW,JX,JY,JZ,Y0,Y1,Y2,Y3,Y4,Y5,Y6,Y7,Y8,Y9,Ya,Yb,Yc,Yd,Ye,Yf,Yg,Yh,Yi,Yj,Yk,Yl,Ym,Yn,ial,Yo,Yp,Yq,Yr,Ys,Yt,Yu,Yv,ires,iresL,ires1,Yw,Yx,Yy,Yz,YA,YB,bin2,YC,YD,YE,YF,YG,YH,YI,YJ,YK,YL,YM,YN,YO,YP,YQ,YR,un1,shOk,eqL,eq1,fillL,putAt,IHeap.load1,IHeap.loadL,IHeap.storeL,YS,YT,YU,YV,YW,YX,YY,YZ,B0,B1,B2,B3,B4,B5,B6,B7,B8,B9,Ba,Bb,Bc,Bd,Be,Bf,Bg,Bh,Bi,Bj,Bk,Bl,Bm]
  refine call_of (WDone_ok c hC hw2 ?_)
  have g2 := (k2.get q3 hq3).trans hq
  have n2 := k2.next
  obtain ⟨v', H3, e3, o3, k3⟩ := Buf.append (bytes := 1) (new := x.map rowU) (hv.le k2).buf (B := q3 + 1) (by omega) (by omega) (by omega) (by simp; omega) (by simp; omega) (fun r hr => by obtain ⟨y, _, rfl⟩ := List.mem_map.1 hr; rfl) (by
    rw [List.all_eq_true]
    intro y hy
    simp only [List.mem_flatten, List.mem_map] at hy
    obtain ⟨l, ⟨z, _, rfl⟩, hy⟩ := hy
    simp only [rowU, u8V, List.mem_singleton] at hy
    subst hy; rfl) (by simpa using hx)
  have hfl : (x.map rowU).flatten = x.map fun b => .int .u8 (b.toNat : Nat) := by
    clear e3 o3 hK hf hxl hx hw2
    induction x with
    | nil => rfl
    | cons y x ih => rw [List.map_cons, List.flatten_cons, ih]; rfl
  rw [hfl, List.length_map] at e3
  have g3 := (k3.get q3 (by omega)).trans g2
  have hv3 : ∃ a cp, v' = .slice a (acc ++ x).length cp := by
    obtain ⟨a, cp, e⟩ := o3.len
    rw [← List.map_append, List.length_map] at e
    exact ⟨a, cp, e⟩
  rw [← List.map_append] at o3
  obtain ⟨a, cp, rfl⟩ := hv3
  have hsz : (ByteArray.mk x.toArray).size = x.length := by simp [ByteArray.size]
  simp -implicitDefEqProofs [J0,J1,J2,J3,J4,J5,J6,J7,J8,J9,Ja,Jb,Jc,Jd,Je,Jf,Jg,Jh,Ji,Jj,Jk,Jl,Jm,Jn,Jo,Jp,Jq,Jr,Js,Jt,Ju,Jv,Jw,Jx,Jy,Jz,JA,JB,JC,JD,JE,JF,JG,JH,JI,JJ,JK,JL,JM,JN,JO,JP,stillI,IOp.kind,JQ,JR,JS,JT,JU,JV,JW,JX,JY,JZ,Y0,Y1,Y2,Y3,Y4,Y5,Y6,Y7,Y8,Y9,Ya,Yb,Yc,Yd,Ye,Yf,Yg,Yh,Yi,Yj,Yk,Yl,Ym,Yn,ial,Yo,Yp,Yq,Yr,Ys,Yt,Yu,Yv,ires,iresL,ires1,Yw,Yx,Yy,Yz,YA,YB,bin2,YC,YD,YE,YF,YG,YH,YI,YJ,YK,YL,YM,YN,YO,YP,YQ,YR,un1,shOk,eqL,eq1,fillL,putAt,IHeap.load1,IHeap.loadL,IHeap.storeL,YS,YT,YU,YV,YW,YX,YY,YZ,B0,B1,B2,B3,B4,B5,B6,B7,B8,B9,Ba,Bb,Bc,Bd,Be,Bf,Bg,Bh,Bi,Bj,Bk,Bl,Bm, Wr.done, strV, g2, hsz, e3, g3]
  have n3 := k3.next
  refine hK _ _ (((k2.keep (Nat.le_of_lt hq3)).trans (k3.weak (by omega))).set (Nat.le_refl _) _) (by simp only [YV]; omega) (Grow.upd (S := [q3]) (.inr o3) ((IHeap.upd_refl _ _).set (.inr (List.mem_singleton.2 rfl)) _) (by simp)) (by rw [YT, if_pos rfl, List.length_append])

include hc hC in
theorem SText_ok {p q : Nat} {bs : Nat → Nat} {L : List St} (h : IsS H p q bs L) (hK : ∀ H', H.le H' → K (strV (encS L)) H') : c.C (c.F n_smap_Map_Text) [.pointer (some ⟨p, 0, none⟩)] H K := by
  refine c.enter hc.smap_Map_Text rfl ?_
  have hlen := h.len
  simp -implicitDefEqProofs [J0,J1,J2,J3,J4,J5,J6,J7,J8,J9,Ja,Jb,Jc,Jd,Je,Jf,Jg,Jh,Ji,Jj,Jk,Jl,Jm,Jn,Jo,Jp,Jq,Jr,Js,Jt,Ju,Jv,Jw,Jx,Jy,Jz,JA,JB,JC,JD,JE,JF,JG,JH,JI,JJ,JK,JL,JM,JN,JO,JP,stillI,IOp.kind,JQ,JR,JS,JT,JU,JV,JW,JX,JY,JZ,Y0,Y1,Y2,Y3,Y4,Y5,Y6,Y7,Y8,Y9,Ya,Yb,Yc,Yd,Ye,Yf,Yg,Yh,Yi,Yj,Yk,Yl,Ym,Yn,ial,Yo,Yp,Yq,Yr,Ys,Yt,Yu,Yv,ires,iresL,ires1,Yw,Yx,Yy,Yz,YA,YB,bin2,YC,YD,YE,YF,YG,YH,YI,YJ,YK,YL,YM,YN,YO,YP,YQ,YR,un1,shOk,eqL,eq1,fillL,putAt,IHeap.load1,IHeap.loadL,IHeap.storeL,YS,YT,YU,YV,YW,YX,YY,YZ,B0,B1,B2,B3,B4,B5,B6,B7,B8,B9,Ba,Bb,Bc,Bd,Be,Bf,Bg,Bh,Bi,Bj,Bk,Bl,Bm, c_smap_Map_Text, nilOf]
  obtain ⟨HA, hHA⟩ : ∃ HA : IHeap, HA = (H.alloc (.cells [.pointer (some ⟨p, 0, none⟩)] false)).alloc (.cells [.slice none 0 0] false) := ⟨_, rfl⟩
  rw [← hHA]
  have kA : H.le HA := by rw [hHA]; exact (H.le_alloc _).alloc _
  have nA : HA.next = H.next + 1 + 1 := by rw [hHA]; rfl
  have gA : HA.get H.next = some (.cells [.pointer (some ⟨p, 0, none⟩)] false) := by rw [hHA, YS, if_neg (by simp only [YU]; omega), YS, if_pos rfl]
  have gB : HA.get (H.next + 1) = some (.cells [.slice none 0 0] false) := by rw [hHA, YS, if_pos (by simp only [YU])]
  have hl0 := encI_len (n := (L.length : Int)) (by omega) (by omega)
  have hne0 : encI (L.length : Int) ≠ [] := encI_ne _
  refine call_of (put_ok c hc hC (acc := []) (x := encI L.length) gB (by omega) (.inl ⟨rfl, rfl⟩) hne0 (by omega) (by simp) (fun pw H' K' k' hpw hw hK' => ?_) fun v1 H1 k1 q1 w1 g1 => ?_)
  · refine c.enter hc.smap_Map_Text_F2 rfl ?_
    have g' := (k'.get H.next (by omega)).trans gA
    obtain ⟨a, cp, hu⟩ := (h.le (kA.trans k')).u
    simp -implicitDefEqProofs [J0,J1,J2,J3,J4,J5,J6,J7,J8,J9,Ja,Jb,Jc,Jd,Je,Jf,Jg,Jh,Ji,Jj,Jk,Jl,Jm,Jn,Jo,Jp,Jq,Jr,Js,Jt,Ju,Jv,Jw,Jx,Jy,Jz,JA,JB,JC,JD,JE,JF,JG,JH,JI,JJ,JK,JL,JM,JN,JO,JP,stillI,IOp.kind,JQ,JR,JS,JT,JU,JV,JW,JX,JY,JZ,Y0,Y1,Y2,Y3,Y4,Y5,Y6,Y7,Y8,Y9,Ya,Yb,Yc,Yd,Ye,Yf,Yg,Yh,Yi,Yj,Yk,Yl,Ym,Yn,ial,Yo,Yp,Yq,Yr,Ys,Yt,Yu,Yv,ires,iresL,ires1,Yw,Yx,Yy,Yz,YA,YB,bin2,YC,YD,YE,YF,YG,YH,YI,YJ,YK,YL,YM,YN,YO,YP,YQ,YR,un1,shOk,eqL,eq1,fillL,putAt,IHeap.load1,IHeap.loadL,IHeap.storeL,YS,YT,YU,YV,YW,YX,YY,YZ,B0,B1,B2,B3,B4,B5,B6,B7,B8,B9,Ba,Bb,Bc,Bd,Be,Bf,Bg,Bh,Bi,Bj,Bk,Bl,Bm, c_smap_Map_Text_F2, g', hu]
    refine call_of (WInt_ok c hC hw (by omega) (by omega) fun H2 u2 w2 => ?_)
    rw [Wr.lay0 (by simp; omega)] at w2
    simp -implicitDefEqProofs [J0,J1,J2,J3,J4,J5,J6,J7,J8,J9,Ja,Jb,Jc,Jd,Je,Jf,Jg,Jh,Ji,Jj,Jk,Jl,Jm,Jn,Jo,Jp,Jq,Jr,Js,Jt,Ju,Jv,Jw,Jx,Jy,Jz,JA,JB,JC,JD,JE,JF,JG,JH,JI,JJ,JK,JL,JM,JN,JO,JP,stillI,IOp.kind,JQ,JR,JS,JT,JU,JV,JW,JX,JY,JZ,Y0,Y1,Y2,Y3,Y4,Y5,Y6,Y7,Y8,Y9,Ya,Yb,Yc,Yd,Ye,Yf,Yg,Yh,Yi,Yj,Yk,Yl,Ym,Yn,ial,Yo,Yp,Yq,Yr,Ys,Yt,Yu,Yv,ires,iresL,ires1,Yw,Yx,Yy,Yz,YA,YB,bin2,YC,YD,YE,YF,YG,YH,YI,YJ,YK,YL,YM,YN,YO,YP,YQ,YR,un1,shOk,eqL,eq1,fillL,putAt,IHeap.load1,IHeap.loadL,IHeap.storeL,YS,YT,YU,YV,YW,YX,YY,YZ,B0,B1,B2,B3,B4,B5,B6,B7,B8,B9,Ba,Bb,Bc,Bd,Be,Bf,Bg,Bh,Bi,Bj,Bk,Bl,Bm]
    exact hK' _ u2 w2
  · have n1 := k1.next
    obtain ⟨a, cp, hu⟩ := h.u
    have l1 : H.le H1 := (kA.keep (Nat.le_refl _) |>.trans (k1.weak (by omega))).le (Nat.le_refl _)
    have gH1 := (k1.get H.next (by omega)).trans gA
    have gp1 := (l1.get p h.lt).trans hu
    simp -implicitDefEqProofs [J0,J1,J2,J3,J4,J5,J6,J7,J8,J9,Ja,Jb,Jc,Jd,Je,Jf,Jg,Jh,Ji,Jj,Jk,Jl,Jm,Jn,Jo,Jp,Jq,Jr,Js,Jt,Ju,Jv,Jw,Jx,Jy,Jz,JA,JB,JC,JD,JE,JF,JG,JH,JI,JJ,JK,JL,JM,JN,JO,JP,stillI,IOp.kind,JQ,JR,JS,JT,JU,JV,JW,JX,JY,JZ,Y0,Y1,Y2,Y3,Y4,Y5,Y6,Y7,Y8,Y9,Ya,Yb,Yc,Yd,Ye,Yf,Yg,Yh,Yi,Yj,Yk,Yl,Ym,Yn,ial,Yo,Yp,Yq,Yr,Ys,Yt,Yu,Yv,ires,iresL,ires1,Yw,Yx,Yy,Yz,YA,YB,bin2,YC,YD,YE,YF,YG,YH,YI,YJ,YK,YL,YM,YN,YO,YP,YQ,YR,un1,shOk,eqL,eq1,fillL,putAt,IHeap.load1,IHeap.loadL,IHeap.storeL,YS,YT,YU,YV,YW,YX,YY,YZ,B0,B1,B2,B3,B4,B5,B6,B7,B8,B9,Ba,Bb,Bc,Bd,Be,Bf,Bg,Bh,Bi,Bj,Bk,Bl,Bm, gH1, gp1]
    refine loop_nat c.mono (fun k T H' => ∃ (i : Nat) (v : Value), i ≤ L.length ∧ k = L.length - i ∧ T 3 = .pointer (some ⟨H.next + 1, 0, none⟩) ∧ T 4 = .func (.func (c.F n_smap_Map_Text_F1)) #[] #[.pointer (some ⟨H.next + 1, 0, none⟩)] ∧ T 16 = .slice a L.length cp ∧ T 17 = .int .i64 L.length ∧ T 18 = .int .i64 i ∧
      H.le H' ∧ H.next + 1 < H'.next ∧ H'.get (H.next + 1) = some (.cells [v] false) ∧ Grow H' (H.next + 1 + 1) 1 v ((encI L.length ++ ((L.take i).map encSt).flatten).map rowU)) L.length ?_ ?_
    · refine ⟨0, v1, by omega, rfl, ?_⟩
      simp -implicitDefEqProofs [J0,J1,J2,J3,J4,J5,J6,J7,J8,J9,Ja,Jb,Jc,Jd,Je,Jf,Jg,Jh,Ji,Jj,Jk,Jl,Jm,Jn,Jo,Jp,Jq,Jr,Js,Jt,Ju,Jv,Jw,Jx,Jy,Jz,JA,JB,JC,JD,JE,JF,JG,JH,JI,JJ,JK,JL,JM,JN,JO,JP,stillI,IOp.kind,JQ,JR,JS,JT,JU,JV,JW,JX,JY,JZ,Y0,Y1,Y2,Y3,Y4,Y5,Y6,Y7,Y8,Y9,Ya,Yb,Yc,Yd,Ye,Yf,Yg,Yh,Yi,Yj,Yk,Yl,Ym,Yn,ial,Yo,Yp,Yq,Yr,Ys,Yt,Yu,Yv,ires,iresL,ires1,Yw,Yx,Yy,Yz,YA,YB,bin2,YC,YD,YE,YF,YG,YH,YI,YJ,YK,YL,YM,YN,YO,YP,YQ,YR,un1,shOk,eqL,eq1,fillL,putAt,IHeap.load1,IHeap.loadL,IHeap.storeL,YS,YT,YU,YV,YW,YX,YY,YZ,B0,B1,B2,B3,B4,B5,B6,B7,B8,B9,Ba,Bb,Bc,Bd,Be,Bf,Bg,Bh,Bi,Bj,Bk,Bl,Bm]
      refine ⟨l1, by omega, g1, ?_⟩
      simpa using w1
    · rintro k T H' ⟨i, v, hi, rfl, t3, t4, t16, t17, t18, hle, hnx, hg, hgr⟩
      by_cases hil : i < L.length
      · have hil' : (i : Int) < (L.length : Int) := by omega
        have hx : L[i]? = some L[i] := List.getElem?_eq_getElem hil
        obtain ⟨x, hxe⟩ : ∃ x, x = L[i] := ⟨_, rfl⟩
        rw [← hxe] at hx
        obtain ⟨gg1, g2, hrow, hbd, hq, hpq⟩ := h.at hx
        have e := hu.symm.trans gg1
        simp only [Option.some.injEq, IObj.cells.injEq, List.cons.injEq, Value.slice.injEq, and_true, true_and] at e
        obtain ⟨rfl, rfl⟩ := e
        have hxo := h.ok x (List.mem_of_getElem? hx)
        have hxm := St.may_iff.1 hxo.may
        obtain ⟨cs, hcs⟩ : ∃ cs, cs = (rowsB bs L).flatten := ⟨_, rfl⟩
        rw [← hcs] at g2 hrow hbd
        have hsl := (h.le hle).sl hx
        simp only [rowSt, slS] at hrow
        simp only [slS] at hsl
        have g2' := (hle.get q hq).trans g2
        have hw : IntKind.i64.wrap ((i : Int) + 1) = (i : Int) + 1 := wrap64 (by omega) (by omega)
        simp -implicitDefEqProofs [J0,J1,J2,J3,J4,J5,J6,J7,J8,J9,Ja,Jb,Jc,Jd,Je,Jf,Jg,Jh,Ji,Jj,Jk,Jl,Jm,Jn,Jo,Jp,Jq,Jr,Js,Jt,Ju,Jv,Jw,Jx,Jy,Jz,JA,JB,JC,JD,JE,JF,JG,JH,JI,JJ,JK,JL,JM,JN,JO,JP,stillI,IOp.kind,JQ,JR,JS,JT,JU,JV,JW,JX,JY,JZ,Y0,Y1,Y2,Y3,Y4,Y5,Y6,Y7,Y8,Y9,Ya,Yb,Yc,Yd,Ye,Yf,Yg,Yh,Yi,Yj,Yk,Yl,Ym,Yn,ial,Yo,Yp,Yq,Yr,Ys,Yt,Yu,Yv,ires,iresL,ires1,Yw,Yx,Yy,Yz,YA,YB,bin2,YC,YD,YE,YF,YG,YH,YI,YJ,YK,YL,YM,YN,YO,YP,YQ,YR,un1,shOk,eqL,eq1,fillL,putAt,IHeap.load1,IHeap.loadL,IHeap.storeL,YS,YT,YU,YV,YW,YX,YY,YZ,B0,B1,B2,B3,B4,B5,B6,B7,B8,B9,Ba,Bb,Bc,Bd,Be,Bf,Bg,Bh,Bi,Bj,Bk,Bl,Bm, t3, t4, t16, t17, t18, hil, hil', g2', hrow, hbd]
        obtain ⟨HC, hHC⟩ : ∃ HC : IHeap, HC = (H'.alloc (.cells [.int .i64 0, .int .i64 0, .int .i64 0, .int .i64 0, .int .i64 0, .slice none 0 0] false)).set H'.next (.cells [.int .i64 i, .int .i64 x.st, .int .i64 x.ow, .int .i64 x.ep, .int .i64 x.le, .slice (some ⟨bs i, 0, none⟩) x.sv.length (UNK + 1)] false) := ⟨_, rfl⟩
        rw [← hHC]
        have kC : H'.le HC := by rw [hHC]; exact (H'.le_alloc _).set (Nat.le_refl _) _
        have nC : HC.next = H'.next + 1 := by rw [hHC]; rfl
        have gC : HC.get H'.next = some (.cells [.int .i64 i, .int .i64 x.st, .int .i64 x.ow, .int .i64 x.ep, .int .i64 x.le, .slice (some ⟨bs i, 0, none⟩) x.sv.length (UNK + 1)] false) := by rw [hHC, YT, if_pos rfl]
        have htk : L.take (i + 1) = L.take i ++ [x] := by rw [List.take_add_one, hx]; rfl
        have hll := encL_len (L := L.take i) fun y hy => h.ok y (List.mem_of_mem_take hy)
        rw [List.length_take] at hll
        have hsv : ∀ n ∈ x.sv, -9223372036854775808 ≤ n ∧ n < 9223372036854775808 := fun n hn => by have := hxm.2.2.2.2.2.2.2.1 n hn; omega
        have hxl := encSt_len hxo
        have hep := hxo.ep
        have c1 := encI_len (n := x.ow) (by omega) (by omega)
        have c2 := encI_len (n := x.ep) (by omega) (by omega)
        have c3 := encI_len (n := x.le) (by omega) (by omega)
        have c4 := encI_len (n := x.sv.length) (by omega) (by omega)
        have c5 := encInts_len x.sv hsv
        have hs1 := hxo.s1
        have hs3 := hxo.s3
        refine call_of (put_ok c hc hC (acc := encI L.length ++ ((L.take i).map encSt).flatten) (x := encSt x) ((kC.get (H.next + 1) hnx).trans hg) (by omega) (hgr.le kC) (by simp [encSt]) (by omega) (by simp only [List.length_append]; omega) (fun pw H5 K' k' hpw hw5 hK' => ?_) fun v2 H5 k5 q5 w5 g5 => ?_)
        · refine c.enter hc.smap_Map_Text_F3 rfl ?_
          have g' := (k'.get H'.next (by omega)).trans gC
          have hnp : H'.next ≠ pw := by omega
          simp -implicitDefEqProofs [J0,J1,J2,J3,J4,J5,J6,J7,J8,J9,Ja,Jb,Jc,Jd,Je,Jf,Jg,Jh,Ji,Jj,Jk,Jl,Jm,Jn,Jo,Jp,Jq,Jr,Js,Jt,Ju,Jv,Jw,Jx,Jy,Jz,JA,JB,JC,JD,JE,JF,JG,JH,JI,JJ,JK,JL,JM,JN,JO,JP,stillI,IOp.kind,JQ,JR,JS,JT,JU,JV,JW,JX,JY,JZ,Y0,Y1,Y2,Y3,Y4,Y5,Y6,Y7,Y8,Y9,Ya,Yb,Yc,Yd,Ye,Yf,Yg,Yh,Yi,Yj,Yk,Yl,Ym,Yn,ial,Yo,Yp,Yq,Yr,Ys,Yt,Yu,Yv,ires,iresL,ires1,Yw,Yx,Yy,Yz,YA,YB,bin2,YC,YD,YE,YF,YG,YH,YI,YJ,YK,YL,YM,YN,YO,YP,YQ,YR,un1,shOk,eqL,eq1,fillL,putAt,IHeap.load1,IHeap.loadL,IHeap.storeL,YS,YT,YU,YV,YW,YX,YY,YZ,B0,B1,B2,B3,B4,B5,B6,B7,B8,B9,Ba,Bb,Bc,Bd,Be,Bf,Bg,Bh,Bi,Bj,Bk,Bl,Bm, c_smap_Map_Text_F3, g']
          refine call_of (WByte_ok c hC hw5 fun H6 u6 w6 => ?_)
          have g6 := (u6.get H'.next (by have := k'.next; omega) (by simpa using hnp)).trans g'
          rw [Wr.byte0 (by omega) (by omega)] at w6
          simp -implicitDefEqProofs [J0,J1,J2,J3,J4,J5,J6,J7,J8,J9,Ja,Jb,Jc,Jd,Je,Jf,Jg,Jh,Ji,Jj,Jk,Jl,Jm,Jn,Jo,Jp,Jq,Jr,Js,Jt,Ju,Jv,Jw,Jx,Jy,Jz,JA,JB,JC,JD,JE,JF,JG,JH,JI,JJ,JK,JL,JM,JN,JO,JP,stillI,IOp.kind,JQ,JR,JS,JT,JU,JV,JW,JX,JY,JZ,Y0,Y1,Y2,Y3,Y4,Y5,Y6,Y7,Y8,Y9,Ya,Yb,Yc,Yd,Ye,Yf,Yg,Yh,Yi,Yj,Yk,Yl,Ym,Yn,ial,Yo,Yp,Yq,Yr,Ys,Yt,Yu,Yv,ires,iresL,ires1,Yw,Yx,Yy,Yz,YA,YB,bin2,YC,YD,YE,YF,YG,YH,YI,YJ,YK,YL,YM,YN,YO,YP,YQ,YR,un1,shOk,eqL,eq1,fillL,putAt,IHeap.load1,IHeap.loadL,IHeap.storeL,YS,YT,YU,YV,YW,YX,YY,YZ,B0,B1,B2,B3,B4,B5,B6,B7,B8,B9,Ba,Bb,Bc,Bd,Be,Bf,Bg,Bh,Bi,Bj,Bk,Bl,Bm, g6]
          refine call_of (WInt_ok c hC w6 (by omega) (by omega) fun H7 u7 w7 => ?_)
          have g7 := (u7.get H'.next (by have := k'.next; have := u6.next; omega) (by simpa using hnp)).trans g6
          rw [Wr.lay0 (by simp; omega)] at w7
          simp -implicitDefEqProofs [J0,J1,J2,J3,J4,J5,J6,J7,J8,J9,Ja,Jb,Jc,Jd,Je,Jf,Jg,Jh,Ji,Jj,Jk,Jl,Jm,Jn,Jo,Jp,Jq,Jr,Js,Jt,Ju,Jv,Jw,Jx,Jy,Jz,JA,JB,JC,JD,JE,JF,JG,JH,JI,JJ,JK,JL,JM,JN,JO,JP,stillI,IOp.kind,JQ,JR,JS,JT,JU,JV,JW,JX,JY,JZ,Y0,Y1,Y2,Y3,Y4,Y5,Y6,Y7,Y8,Y9,Ya,Yb,Yc,Yd,Ye,Yf,Yg,Yh,Yi,Yj,Yk,Yl,Ym,Yn,ial,Yo,Yp,Yq,Yr,Ys,Yt,Yu,Yv,ires,iresL,ires1,Yw,Yx,Yy,Yz,YA,YB,bin2,YC,YD,YE,YF,YG,YH,YI,YJ,YK,YL,YM,YN,YO,YP,YQ,YR,un1,shOk,eqL,eq1,fillL,putAt,IHeap.load1,IHeap.loadL,IHeap.storeL,YS,YT,YU,YV,YW,YX,YY,YZ,B0,B1,B2,B3,B4,B5,B6,B7,B8,B9,Ba,Bb,Bc,Bd,Be,Bf,Bg,Bh,Bi,Bj,Bk,Bl,Bm, g7]
          refine call_of (WInt_ok c hC w7 (by omega) (by omega) fun H8 u8 w8 => ?_)
          have g8 := (u8.get H'.next (by have := k'.next; have := u6.next; have := u7.next; omega) (by simpa using hnp)).trans g7
          rw [Wr.lay0 (by simp only [List.length_append, List.length_singleton]; omega)] at w8
          simp -implicitDefEqProofs [J0,J1,J2,J3,J4,J5,J6,J7,J8,J9,Ja,Jb,Jc,Jd,Je,Jf,Jg,Jh,Ji,Jj,Jk,Jl,Jm,Jn,Jo,Jp,Jq,Jr,Js,Jt,Ju,Jv,Jw,Jx,Jy,Jz,JA,JB,JC,JD,JE,JF,JG,JH,JI,JJ,JK,JL,JM,JN,JO,JP,stillI,IOp.kind,JQ,JR,JS,JT,JU,JV,JW,JX,JY,JZ,Y0,Y1,Y2,Y3,Y4,Y5,Y6,Y7,Y8,Y9,Ya,Yb,Yc,Yd,Ye,Yf,Yg,Yh,Yi,Yj,Yk,Yl,Ym,Yn,ial,Yo,Yp,Yq,Yr,Ys,Yt,Yu,Yv,ires,iresL,ires1,Yw,Yx,Yy,Yz,YA,YB,bin2,YC,YD,YE,YF,YG,YH,YI,YJ,YK,YL,YM,YN,YO,YP,YQ,YR,un1,shOk,eqL,eq1,fillL,putAt,IHeap.load1,IHeap.loadL,IHeap.storeL,YS,YT,YU,YV,YW,YX,YY,YZ,B0,B1,B2,B3,B4,B5,B6,B7,B8,B9,Ba,Bb,Bc,Bd,Be,Bf,Bg,Bh,Bi,Bj,Bk,Bl,Bm, g8]
          refine call_of (WInt_ok c hC w8 (by omega) (by omega) fun H9 u9 w9 => ?_)
          have g9 := (u9.get H'.next (by have := k'.next; have := u6.next; have := u7.next; have := u8.next; omega) (by simpa using hnp)).trans g8
          rw [Wr.lay0 (by simp only [List.length_append, List.length_singleton]; omega)] at w9
          have u69 := ((u6.trans u7).trans u8).trans u9
          have hs9 : SlW H9 1 (.slice (some ⟨bs i, 0, none⟩) x.sv.length (UNK + 1)) (x.sv.map rowI) := ((hsl.le kC).le k').upd (S := [pw]) (fun b o n cc e hm => by
            simp only [Value.slice.injEq, Option.some.injEq, Addr.mk.injEq, and_true] at e
            have := (h.bl i x hx).1
            have := hle.next
            simp only [List.mem_singleton] at hm
            omega) u69
          simp -implicitDefEqProofs [J0,J1,J2,J3,J4,J5,J6,J7,J8,J9,Ja,Jb,Jc,Jd,Je,Jf,Jg,Jh,Ji,Jj,Jk,Jl,Jm,Jn,Jo,Jp,Jq,Jr,Js,Jt,Ju,Jv,Jw,Jx,Jy,Jz,JA,JB,JC,JD,JE,JF,JG,JH,JI,JJ,JK,JL,JM,JN,JO,JP,stillI,IOp.kind,JQ,JR,JS,JT,JU,JV,JW,JX,JY,JZ,Y0,Y1,Y2,Y3,Y4,Y5,Y6,Y7,Y8,Y9,Ya,Yb,Yc,Yd,Ye,Yf,Yg,Yh,Yi,Yj,Yk,Yl,Ym,Yn,ial,Yo,Yp,Yq,Yr,Ys,Yt,Yu,Yv,ires,iresL,ires1,Yw,Yx,Yy,Yz,YA,YB,bin2,YC,YD,YE,YF,YG,YH,YI,YJ,YK,YL,YM,YN,YO,YP,YQ,YR,un1,shOk,eqL,eq1,fillL,putAt,IHeap.load1,IHeap.loadL,IHeap.storeL,YS,YT,YU,YV,YW,YX,YY,YZ,B0,B1,B2,B3,B4,B5,B6,B7,B8,B9,Ba,Bb,Bc,Bd,Be,Bf,Bg,Bh,Bi,Bj,Bk,Bl,Bm, g9]
          refine call_of (WInts_ok c hC w9 hs9.1 hsv (by omega) fun H10 u10 w10 => ?_)
          rw [Wr.lay0 (by simp only [List.length_append, List.length_singleton]; omega)] at w10
          simp -implicitDefEqProofs [J0,J1,J2,J3,J4,J5,J6,J7,J8,J9,Ja,Jb,Jc,Jd,Je,Jf,Jg,Jh,Ji,Jj,Jk,Jl,Jm,Jn,Jo,Jp,Jq,Jr,Js,Jt,Ju,Jv,Jw,Jx,Jy,Jz,JA,JB,JC,JD,JE,JF,JG,JH,JI,JJ,JK,JL,JM,JN,JO,JP,stillI,IOp.kind,JQ,JR,JS,JT,JU,JV,JW,JX,JY,JZ,Y0,Y1,Y2,Y3,Y4,Y5,Y6,Y7,Y8,Y9,Ya,Yb,Yc,Yd,Ye,Yf,Yg,Yh,Yi,Yj,Yk,Yl,Ym,Yn,ial,Yo,Yp,Yq,Yr,Ys,Yt,Yu,Yv,ires,iresL,ires1,Yw,Yx,Yy,Yz,YA,YB,bin2,YC,YD,YE,YF,YG,YH,YI,YJ,YK,YL,YM,YN,YO,YP,YQ,YR,un1,shOk,eqL,eq1,fillL,putAt,IHeap.load1,IHeap.loadL,IHeap.storeL,YS,YT,YU,YV,YW,YX,YY,YZ,B0,B1,B2,B3,B4,B5,B6,B7,B8,B9,Ba,Bb,Bc,Bd,Be,Bf,Bg,Bh,Bi,Bj,Bk,Bl,Bm]
          refine hK' _ (u69.trans u10) ?_
          have ee : [UInt8.ofNat (x.st % 256).toNat] ++ encI x.ow ++ encI x.ep ++ encI x.le ++ (encI x.sv.length ++ encInts x.sv) = encSt x := by simp [encSt, stB]
          rw [← ee]; exact w10
        · have n5 := k5.next
          rw [show encI (L.length : Int) ++ ((L.take i).map encSt).flatten ++ encSt x = encI L.length ++ ((L.take (i + 1)).map encSt).flatten from by rw [htk, List.map_append, List.flatten_append]; simp] at w5
          obtain ⟨acc', hacc'⟩ : ∃ a, a = encI (L.length : Int) ++ ((L.take (i + 1)).map encSt).flatten := ⟨_, rfl⟩
          rw [← hacc'] at w5
          simp -implicitDefEqProofs [J0,J1,J2,J3,J4,J5,J6,J7,J8,J9,Ja,Jb,Jc,Jd,Je,Jf,Jg,Jh,Ji,Jj,Jk,Jl,Jm,Jn,Jo,Jp,Jq,Jr,Js,Jt,Ju,Jv,Jw,Jx,Jy,Jz,JA,JB,JC,JD,JE,JF,JG,JH,JI,JJ,JK,JL,JM,JN,JO,JP,stillI,IOp.kind,JQ,JR,JS,JT,JU,JV,JW,JX,JY,JZ,Y0,Y1,Y2,Y3,Y4,Y5,Y6,Y7,Y8,Y9,Ya,Yb,Yc,Yd,Ye,Yf,Yg,Yh,Yi,Yj,Yk,Yl,Ym,Yn,ial,Yo,Yp,Yq,Yr,Ys,Yt,Yu,Yv,ires,iresL,ires1,Yw,Yx,Yy,Yz,YA,YB,bin2,YC,YD,YE,YF,YG,YH,YI,YJ,YK,YL,YM,YN,YO,YP,YQ,YR,un1,shOk,eqL,eq1,fillL,putAt,IHeap.load1,IHeap.loadL,IHeap.storeL,YS,YT,YU,YV,YW,YX,YY,YZ,B0,B1,B2,B3,B4,B5,B6,B7,B8,B9,Ba,Bb,Bc,Bd,Be,Bf,Bg,Bh,Bi,Bj,Bk,Bl,Bm, t3, t4, t16, t17, t18, hw]
          refine ⟨L.length - (i + 1), by omega, i + 1, by omega, rfl, by simp, ?_, q5, v2, g5, ?_⟩
          · exact (((hle.trans kC).keep (Nat.le_refl _)).trans (k5.weak (by omega))).le (Nat.le_refl _)
          · rw [hacc'] at w5
            simpa using w5
      · have hil' : ¬ (i : Int) < (L.length : Int) := by omega
        rw [List.take_of_length_le (by omega)] at hgr
        have hgo : Own H' (H.next + 1 + 1) 1 v ((encI L.length ++ (L.map encSt).flatten).map rowU) := by
          rcases hgr with ⟨e, _⟩ | o
          · exfalso
            rw [List.map_eq_nil_iff, List.append_eq_nil_iff] at e
            exact hne0 e.1
          · exact o
        obtain ⟨acc, hacc⟩ : ∃ a, a = encI (L.length : Int) ++ (L.map encSt).flatten := ⟨_, rfl⟩
        rw [← hacc] at hgo
        obtain ⟨b, cp', cs, e1, hgb, hbl, hby⟩ := hgo.bytes
        subst e1
        simp -implicitDefEqProofs [J0,J1,J2,J3,J4,J5,J6,J7,J8,J9,Ja,Jb,Jc,Jd,Je,Jf,Jg,Jh,Ji,Jj,Jk,Jl,Jm,Jn,Jo,Jp,Jq,Jr,Js,Jt,Ju,Jv,Jw,Jx,Jy,Jz,JA,JB,JC,JD,JE,JF,JG,JH,JI,JJ,JK,JL,JM,JN,JO,JP,stillI,IOp.kind,JQ,JR,JS,JT,JU,JV,JW,JX,JY,JZ,Y0,Y1,Y2,Y3,Y4,Y5,Y6,Y7,Y8,Y9,Ya,Yb,Yc,Yd,Ye,Yf,Yg,Yh,Yi,Yj,Yk,Yl,Ym,Yn,ial,Yo,Yp,Yq,Yr,Ys,Yt,Yu,Yv,ires,iresL,ires1,Yw,Yx,Yy,Yz,YA,YB,bin2,YC,YD,YE,YF,YG,YH,YI,YJ,YK,YL,YM,YN,YO,YP,YQ,YR,un1,shOk,eqL,eq1,fillL,putAt,IHeap.load1,IHeap.loadL,IHeap.storeL,YS,YT,YU,YV,YW,YX,YY,YZ,B0,B1,B2,B3,B4,B5,B6,B7,B8,B9,Ba,Bb,Bc,Bd,Be,Bf,Bg,Bh,Bi,Bj,Bk,Bl,Bm, t3, t4, t16, t17, t18, hil, hil', hg, hgb, hbl, hby]
        have := hK _ hle
        unfold encS at this
        rw [← hacc] at this
        exact this

end
end Go.Proofs.YtmdkkhnenciknaaI
